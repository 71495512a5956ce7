/- FnNames: part 24 of 25 of my texts for this claim, joined; the theorem stands in the last. Conditions: none beyond the statement's. -/
import Derived.Test.YtiipkjehlaenkaaDoorMFnNamesx19
import Derived.Test.YtiipkjehlaenkaaDoorMFnNamesx21
import Derived.Test.YtiipkjehlaenkaaDoorMFnNamesx22
import Derived.Test.YtiipkjehlaenkaaDoorMFnNamesx17
import Derived.Test.YtiipkjehlaenkaaDoorMFnNamesx18
import Derived.Test.YtiipkjehlaenkaaDoorMFnNamesx16
-- PureFnExactNameOf
/- 'laws.FnExactNameOf' returns true: the reference and the program return the same. Conditions: none beyond the statement's. -/
namespace Go.Proofs.YtiipkjehlaenkaaDoor.Pure
open Go.RowKit Go.Proofs.YtiipkjehlaenkaaDoor.P Go.Proofs.YtiipkjehlaenkaaDoorW.PrintWords Go.Proofs.YtiipkjehlaenkaaDoorW.PrintLast
set_option linter.unusedVariables false
set_option linter.unusedSimpArgs false
def failN : ByteArray × Bool := ((⟨#[]⟩ : ByteArray), false)
def nameS (L : List ByteArray) : ByteArray × Bool := if goodL (joinL L) = true then (mkB (joinL L), true) else failN
theorem label_dot {l : List UInt8} (h : isLabelL l = true) : ∀ y ∈ l, y ≠ 46 := by
  unfold isLabelL at h
  simp only [Bool.or_eq_true, Bool.and_eq_true, beq_iff_eq, List.all_eq_true] at h
  rintro y hy rfl
  rcases h with rfl | h
  · simp at hy
  · exact absurd (h.2 46 hy) (by decide)
theorem nameof_loop (L : List ByteArray) (hs : ∀ x ∈ L, x.size ≤ 1048576) (hn : L.length ≤ 1048576) : ∀ (m i : Nat), i + m = L.length → (∀ x ∈ L.take i, isLabelL x.data.toList = true) →
    Ev (fun k => spec_NameOf.l0 k L L (L.length : Int) (i : Int)) (if L.all (fun x => isLabelL x.data.toList) then nameS L else failN)
  | 0, i, him, hp => by
    rw [List.take_of_length_le (by omega)] at hp
    have hall : L.all (fun x => isLabelL x.data.toList) = true := List.all_eq_true.2 hp
    have hsz : ∀ x ∈ L, x.size ≤ 1000 := fun x hx => by have := label_size (hp x hx); rw [size_len]; omega
    have hjl := joinL_len L (fun x hx => by have := label_size (hp x hx); rw [size_len]; omega)
    rw [hall, if_pos rfl]
    refine Ev.step (f := fun k => (spec_l1Join.f k L).bind fun t269 => ((spec_GoodName.f k t269).bind fun t270 => (if t270 = true then (some (t269, true)) else (some failN)))) (fun k => ?_) (Ev.bind (join_ev L hsz (by omega)) (Ev.bind (specGood_ev _ (by rw [mkB_size]; omega)) ?_))
    · show spec_NameOf.l0 (k + 1) L L (L.length : Int) (i : Int) = _
      conv => lhs; unfold spec_NameOf.l0
      rw [if_neg (by omega)]
      rfl
    · rw [mkB_data]
      unfold nameS
      by_cases hg : goodL (joinL L) = true
      · simp only [if_pos hg]; exact Ev.now _
      · simp only [if_neg hg]; exact Ev.now _
  | m + 1, i, him, hp => by
    have hi : i < L.length := by omega
    have hrd : rdOf ByteArray.empty L (i : Int) = L[i] := sz_rd L i hi
    refine Ev.step (f := fun k => (spec_l1Label.f k L[i]).bind fun t268 => (if t268 = true then (spec_NameOf.l0 k L L (L.length : Int) ((i + 1 : Nat) : Int)) else (some failN))) (fun k => ?_) (Ev.bind (label_ev L[i] (by have := hs _ (List.getElem_mem hi); omega)) ?_)
    · show spec_NameOf.l0 (k + 1) L L (L.length : Int) (i : Int) = _
      conv => lhs; unfold spec_NameOf.l0
      rw [if_pos (by omega), if_pos (by omega), if_pos (by omega), hrd, w64n (by omega)]
      rfl
    · by_cases hg : isLabelL L[i].data.toList = true
      · simp only [if_pos hg]
        refine nameof_loop L hs hn m (i + 1) (by omega) ?_
        intro x hx
        rw [List.take_add_one, List.getElem?_eq_getElem hi] at hx
        rcases List.mem_append.1 hx with hx | hx
        · exact hp x hx
        · obtain rfl : x = L[i] := by simpa using hx
          exact hg
      · have hall : L.all (fun x => isLabelL x.data.toList) = false := by
          rw [List.all_eq_false]
          exact ⟨_, List.getElem_mem hi, hg⟩
        simp only [if_neg hg, hall, Bool.false_eq_true, if_false]
        exact Ev.now _
theorem nameof_spec (L : List ByteArray) (hs : ∀ x ∈ L, x.size ≤ 1048576) (hn : L.length ≤ 1048576) : Ev (fun k => spec_NameOf.f k L) (nameR L) := by
  have := nameof_loop L hs hn L.length 0 (by omega) (by simp)
  have e : nameR L = if L.all (fun x => isLabelL x.data.toList) then nameS L else failN := by
    unfold nameR nameS failN
    by_cases hall : L.all (fun x => isLabelL x.data.toList) = true
    · rw [hall, Bool.and_true, if_pos rfl]
      by_cases h8 : L.length ≤ 8
      · rw [decide_eq_true h8, if_pos rfl]
      · rw [decide_eq_false h8, if_neg (by simp)]
        have hg : ¬ goodL (joinL L) = true := by
          intro hg
          unfold goodL at hg
          simp only [Bool.and_eq_true, decide_eq_true_eq] at hg
          have hne : L ≠ [] := by rintro rfl; simp at h8
          have hsp := split_join (L.map (·.data.toList)) (by simpa using hne) (by
            intro x hx
            obtain ⟨q, hq, rfl⟩ := List.mem_map.1 hx
            exact label_dot (List.all_eq_true.1 hall q hq))
          have hlab : labelsL (joinL L) = L.map (·.data.toList) := by
            unfold labelsL
            rw [if_neg ?_]
            · exact hsp
            · intro e
              unfold joinL at e
              rw [e] at hsp
              have := congrArg List.length hsp
              rw [List.length_map] at this
              simp [splitL] at this
              omega
          rw [hlab, List.length_map] at hg
          omega
        rw [if_neg hg]
    · rw [Bool.eq_false_iff.mpr hall, Bool.and_false, if_neg (by simp)]
  rw [e]
  exact this
theorem FnExactNameOf (l0 : List ByteArray) (hl : l0.length ≤ maxLen) (hs : ∀ s ∈ l0, s.size ≤ maxLen) : ∃ k, laws_FnExactNameOf.f k l0 = some true := by
  suffices h : Ev (fun k => laws_FnExactNameOf.f k l0) true from h.rounds
  obtain ⟨t, e1, e2⟩ := szS_ev l0 hs hl
  refine Ev.congr (fun k => rfl) (Ev.bind e1 ?_)
  by_cases ht : t < 0
  · simp only [if_pos ht]; exact Ev.now _
  · simp only [if_neg ht]
    obtain ⟨h1, h2⟩ := e2 (by omega)
    refine Ev.bind (toS_ev l0 h1) (Ev.bind (nameof_spec l0 h2 h1) (Ev.bind (toS_ev l0 h1) ?_))
    unfold impl_NameOf.f
    simp only [Option.bind_some, if_true, bne_self_eq_false]
    refine Ev.step (f := fun k => (laws_toStringS.f k l0).bind fun t290 => ((laws_eqStringS.f k l0 t290).bind fun t293 => (if t293 = true then (some true) else (some false)))) (fun k => ?_) (Ev.bind (toS_ev l0 h1) (Ev.bind (eqS_ev l0 (by omega)) ?_))
    · rfl
    · simp only [if_true]; exact Ev.now _
end Go.Proofs.YtiipkjehlaenkaaDoor.Pure

-- PureFnNames
/- 'laws.FnNames' returns true, for all bytes. Conditions: none beyond the statement's. -/
namespace Go.Proofs.YtiipkjehlaenkaaDoor.Pure
open Go.RowKit Go.Proofs.YtiipkjehlaenkaaDoor.P Go.Proofs.YtiipkjehlaenkaaDoorW.PrintWords Go.Proofs.YtiipkjehlaenkaaDoorW.PrintLast
set_option linter.unusedVariables false
set_option linter.unusedSimpArgs false
theorem same_loop (l : List ByteArray) (hl : l.length < 1099511627776) : ∀ (m i : Nat), i + m = l.length → laws_sameTexts.l0 (m + 1) l l (l.length : Int) (i : Int) = some true
  | 0, i, h => by
    unfold laws_sameTexts.l0
    rw [if_neg (by omega)]
  | m + 1, i, h => by
    unfold laws_sameTexts.l0
    rw [if_pos (by omega), if_pos (by omega), if_pos (by omega), if_pos (by omega), if_pos rfl, mS_w (by omega), same_loop l hl m (i + 1) (by omega)]
theorem same_ev (l : List ByteArray) (hl : l.length < 1099511627776) : Ev (fun k => laws_sameTexts.f k l l) true := by
  refine Ev.of (fun k => laws_sameTexts.mono _ _ _) (k := l.length + 1) ?_
  unfold laws_sameTexts.f
  rw [if_pos rfl]
  exact same_loop l hl l.length 0 (by omega)

def labR (s : ByteArray) : List ByteArray × Bool := if goodL s.data.toList = true then ((labelsL s.data.toList).map mkB, true) else ([], false)
theorem labR_spec (s : ByteArray) (hs : s.size ≤ 1000) : Ev (fun k => spec_LabelsOf.f k s) (labR s) := by
  obtain ⟨r, h1, h2, h3⟩ := labels_ev s (by omega)
  refine Ev.congr (fun k => rfl) (Ev.bind h1 ?_)
  unfold labR
  rw [h2] at h3 ⊢
  by_cases h : goodL s.data.toList = true
  · simp only [if_pos h, h3 h]; exact Ev.now _
  · simp only [if_neg h]; exact Ev.now _
theorem labR_impl (s : ByteArray) (hs : s.size ≤ 1000) : impl_LabelsOf.f s = some (labR s) := by
  unfold impl_LabelsOf.f impl_GoodName.f labR
  rw [labelsOf_eq s (by omega)]
  by_cases h : goodL s.data.toList = true <;> simp [h]
def parR (s : ByteArray) : ByteArray × Bool := if goodL s.data.toList = true then (if s.toList = ([] : List UInt8) then ((⟨#[]⟩ : ByteArray), false) else (mkB (parL s.data.toList), true)) else ((⟨#[]⟩ : ByteArray), false)
theorem parR_spec (s : ByteArray) (hs : s.size ≤ 1000) : Ev (fun k => spec_ParentOf.f k s) (parR s) := by
  unfold parR
  refine Ev.congr (fun k => rfl) (Ev.bind (specGood_ev s (by omega)) ?_)
  by_cases h : goodL s.data.toList = true
  · simp only [if_pos h]
    by_cases h' : s.toList = ([] : List UInt8)
    · simp only [if_pos h']; exact Ev.now _
    · simp only [if_neg h']; exact Ev.bind (specParent_ev s (by omega)) (Ev.now _)
  · simp only [if_neg h]; exact Ev.now _
theorem parR_impl (s : ByteArray) (hs : s.size ≤ 1000) : impl_ParentOf.f s = some (parR s) := by
  unfold impl_ParentOf.f impl_GoodName.f parR
  rw [implParent_eq s (by omega)]
  by_cases h : goodL s.data.toList = true <;> by_cases h' : s.toList = ([] : List UInt8) <;> simp [h, h']
theorem names_wild (s : ByteArray) (hs : s.size ≤ 1000) : ∃ r, Ev (fun k => spec_WildOf.f k s) r ∧ Ev (fun k => impl_WildOf.f k s) r := by
  have hp : (mkB (parL s.data.toList)).size ≤ 1000 := by rw [mkB_size]; have := parL_len s.data.toList; rw [← size_len] at this; omega
  obtain ⟨w, hw⟩ : ∃ w, impl_starOf.f (mkB (parL s.data.toList)) = some w := by
    unfold impl_starOf.f
    by_cases h : (mkB (parL s.data.toList)).toList = ([] : List UInt8)
    · exact ⟨_, if_pos h⟩
    · exact ⟨_, by rw [if_neg h, if_pos (by omega)]⟩
  have hsp : Ev (fun k => spec_l1Wild.f k s) w := by
    refine Ev.congr (fun k => rfl) (Ev.bind (specParent_ev s (by omega)) ?_)
    exact Ev.congr (fun k => hw) (Ev.now w)
  refine ⟨if goodL s.data.toList = true then (if s.toList = ([] : List UInt8) then ((⟨#[]⟩ : ByteArray), false) else (w, true)) else ((⟨#[]⟩ : ByteArray), false), ?_, ?_⟩
  · refine Ev.congr (fun k => rfl) (Ev.bind (specGood_ev s (by omega)) ?_)
    by_cases h : goodL s.data.toList = true
    · simp only [if_pos h]
      by_cases h' : s.toList = ([] : List UInt8)
      · simp only [if_pos h']; exact Ev.now _
      · simp only [if_neg h']; exact Ev.bind hsp (Ev.now _)
    · simp only [if_neg h]; exact Ev.now _
  · refine Ev.of (fun k => impl_WildOf.mono _ _) (k := 1) ?_
    have hj : ∀ b, impl_WildOf.j0 1 s b = if b = true then some ((⟨#[]⟩ : ByteArray), false) else some (w, true) := by
      intro b
      show (if b = true then some ((⟨#[]⟩ : ByteArray), false) else ((impl_parentOf.f s).bind fun t186 => ((impl_starOf.f t186).bind fun t187 => some (t187, true)))) = _
      rw [implParent_eq s (by omega), Option.bind_some, hw]
      rfl
    unfold impl_WildOf.f impl_GoodName.f
    simp only [hj]
    by_cases h : goodL s.data.toList = true <;> by_cases h' : s.toList = ([] : List UInt8) <;> simp [h, h', hw]
theorem names_below (a b : ByteArray) (ha : a.size ≤ 1000) (hb : b.size ≤ 1000) (ga : goodL a.data.toList = true) (gb : goodL b.data.toList = true) : impl_IsBelow.f a b = some (belowL a.data.toList b.data.toList, true) := by
  unfold impl_IsBelow.f impl_GoodName.f
  rw [implBelow_eq a b (by omega) (by omega)]
  simp [ga, gb]

theorem join_split (s : List UInt8) : Lib.join (splitL 46 s) [46] = s := by
  induction s with
  | nil => rfl
  | cons x xs ih =>
    unfold splitL
    by_cases h : x = 46
    · rw [if_pos h, h]
      obtain ⟨p, ps, hp⟩ := List.exists_cons_of_ne_nil (splitL_ne 46 xs)
      rw [hp] at ih ⊢
      rw [Lib.join_cons, tail_cons, ← Lib.join_cons, ih]
      rfl
    · rw [if_neg h]
      obtain ⟨p, ps, hp⟩ := List.exists_cons_of_ne_nil (splitL_ne 46 xs)
      rw [hp] at ih ⊢
      rw [Lib.join_cons] at ih ⊢
      rw [List.cons_append, ih]
theorem labels_name (s : ByteArray) (h : goodL s.data.toList = true) : nameR ((labelsL s.data.toList).map mkB) = (s, true) := by
  have hj : joinL ((labelsL s.data.toList).map mkB) = s.data.toList := by
    unfold joinL
    rw [List.map_map, show ((fun x : ByteArray => x.data.toList) ∘ mkB) = id from funext fun x => mkB_data x, List.map_id]
    unfold labelsL
    split
    · rename_i e; rw [e]; rfl
    · exact join_split _
  unfold nameR
  rw [hj, if_pos h, data_mkB]
  unfold goodL at h
  simp only [Bool.and_eq_true] at h
  rw [List.length_map, h.2.1, List.all_map]
  simp only [Function.comp_def, mkB_data]
  rw [show (labelsL s.data.toList).all (fun x => isLabelL x) = true from h.2.2]
  rfl
theorem labels_par {s : List UInt8} (h : goodL s = true) (hne : s ≠ []) : labelsL (parL s) = (labelsL s).drop 1 ∧ 1 ≤ (labelsL s).length := by
  have hl : labelsL s = splitL 46 s := by unfold labelsL; rw [if_neg hne]
  rcases par_or s with ⟨h1, h2⟩ | ⟨p, h1, h2⟩
  · rw [h1, hl, splitL_none 46 s h2]
    exact ⟨rfl, by simp⟩
  · have hs : splitL 46 s = p :: splitL 46 (parL s) := by
      conv => lhs; rw [h1]
      exact splitL_hit 46 p _ h2
    rw [hl, hs]
    refine ⟨?_, by simp⟩
    unfold labelsL
    split
    · rename_i e
      unfold goodL at h
      rw [hl, hs, e] at h
      simp [splitL, isLabelL] at h
    · rfl

theorem low_idem (b : UInt8) : lowB (lowB b) = lowB b := by
  have : ∀ n : Fin 256, lowB (lowB (UInt8.ofFin n)) = lowB (UInt8.ofFin n) := by decide +kernel
  exact this b.toFin
theorem names_fold_eq (s : ByteArray) : impl_FoldName.f s = some (foldR s) := by
  unfold impl_FoldName.f foldR
  by_cases h : s.size ≤ 60
  · rw [if_neg (by omega), if_pos h]
    unfold impl_small.f impl_GoodName.f
    rw [if_pos (by omega)]
    simp only [Option.bind_some, mkB_data]
    by_cases hg : goodL (s.data.toList.map lowB) = true
    · rw [if_pos hg, if_pos hg]
    · rw [if_neg hg, if_neg hg]
  · rw [if_pos (by omega), if_neg h]
theorem fold_twice (s : ByteArray) (h : (foldR s).2 = true) : foldR (foldR s).1 = foldR s := by
  unfold foldR at h ⊢
  by_cases h1 : s.size ≤ 60
  · rw [if_pos h1] at h ⊢
    by_cases h2 : goodL (s.data.toList.map lowB) = true
    · rw [if_pos h2]
      simp only [mkB_size, mkB_data, List.length_map, List.map_map]
      have e : (lowB ∘ lowB) = lowB := funext low_idem
      rw [e, if_pos (by rw [← size_len]; exact h1), if_pos h2]
    · rw [if_neg h2] at h; cases h
  · rw [if_neg h1] at h; cases h

theorem nameOf_loop {l : List Int} (hl : Bytes l) : ∀ (m : Nat) (at_ sd : Int) (n : Nat) (acc : List ByteArray), Cur at_ n → n + 2 * m < 4611686018427387000 → acc.length + m ≤ 10 → (∀ x ∈ acc, x.size ≤ 30) →
    ∃ r, spec_DrawNameOf.l0 (m + 1) acc (m : Int) l at_ sd = some r ∧ r.length ≤ 10 ∧ ∀ x ∈ r, x.size ≤ 30
  | 0, at_, sd, n, acc, hc, hn, ha, hx => ⟨acc, by unfold spec_DrawNameOf.l0; rw [if_neg (by omega)], by omega, hx⟩
  | m + 1, at_, sd, n, acc, hc, hn, ha, hx => by
    obtain ⟨x, at2, sd2, e, hm, hc2⟩ := of_some hl hc (by omega) (sd := sd) ([(⟨#[97]⟩ : ByteArray), (⟨#[98, 49]⟩ : ByteArray), (⟨#[101, 120]⟩ : ByteArray), (⟨#[42]⟩ : ByteArray), (⟨#[99, 111, 109]⟩ : ByteArray), (⟨#[97, 45, 95, 98]⟩ : ByteArray), (⟨#[]⟩ : ByteArray), (⟨#[65]⟩ : ByteArray), (⟨#[97, 98, 99, 100, 101, 102, 103, 104, 105, 106, 107, 108, 109, 110, 111, 112, 113, 114, 115, 116]⟩ : ByteArray)] : List ByteArray) (by decide)
    have hsz : x.size ≤ 30 := size_le (by decide) hm
    obtain ⟨r, f, hr, hr2⟩ := nameOf_loop hl m at2 sd2 (n + 2) (acc ++ [x]) hc2 (by omega) (by rw [List.length_append, List.length_singleton]; omega) (by
      intro y hy
      rcases List.mem_append.1 hy with hy | hy
      · exact hx y hy
      · rw [List.mem_singleton.1 hy]; exact hsz)
    refine ⟨r, ?_, hr, hr2⟩
    conv => lhs; unfold spec_DrawNameOf.l0
    rw [if_pos (by omega), e, Option.bind_some]
    dsimp only
    rw [if_pos (by omega), show wrap64 (((m + 1 : Nat) : Int) - 1) = (m : Int) by unfold wrap64; omega]
    exact f
theorem nameOf_draw {l : List Int} (hl : Bytes l) : ∃ r, Ev (fun k => spec_DrawNameOf.f k l) r ∧ r.length ≤ 10 ∧ ∀ x ∈ r, x.size ≤ 30 := by
  obtain ⟨i, at2, sd2, e, hi, hc2⟩ := pick_some hl (at_ := 0) (sd := 0) (n := 0) ⟨by omega, by omega⟩ (by omega) 6
  obtain ⟨m, rfl⟩ : ∃ m : Nat, i = (m : Int) := ⟨i.toNat, by omega⟩
  obtain ⟨r, f, hr⟩ := nameOf_loop hl m at2 sd2 _ [] hc2 (by omega) (by simp; omega) (by simp)
  refine ⟨r, Ev.of (fun k => spec_DrawNameOf.mono _ _) (k := m + 1) ?_, hr⟩
  unfold spec_DrawNameOf.f
  rw [e]
  exact f
theorem fold_draw {l : List Int} (hl : Bytes l) : ∃ r, spec_DrawFoldName.f l = some r := by
  unfold spec_DrawFoldName.f
  obtain ⟨x, at2, sd2, e, _, _⟩ := of_some hl (at_ := 0) (sd := 0) (n := 0) ⟨by omega, by omega⟩ (by omega) ([(⟨#[87, 119, 87, 46, 69, 120, 46, 67, 79, 77]⟩ : ByteArray), (⟨#[97, 46, 66]⟩ : ByteArray), (⟨#[]⟩ : ByteArray), (⟨#[65, 95]⟩ : ByteArray), (⟨#[195, 169]⟩ : ByteArray), (⟨#[65, 46, 46, 66]⟩ : ByteArray), (⟨#[42, 46, 69, 88]⟩ : ByteArray), (⟨#[97, 66, 49, 45]⟩ : ByteArray)] : List ByteArray) (by decide)
  rw [e]
  exact ⟨_, rfl⟩

theorem names_j2 {l : List Int} (hl : Bytes l) : Ev (fun k => laws_FnNames.j2 k l) true := by
  obtain ⟨r, e, hr, hx⟩ := nameOf_draw hl
  obtain ⟨t, et⟩ := fold_draw hl
  refine Ev.step (f := fun k => (spec_DrawNameOf.f k l).bind fun t372 => (spec_NameOf.f k t372).bind fun bt377 => if ((nameR t372).2 != bt377.2) = true then some false else (if (nameR t372).1.toList = bt377.1.toList then some true else some false)) (fun k => ?_) (Ev.bind e (Ev.bind (nameof_spec r (fun x hxr => by have := hx x hxr; omega) (by omega)) ?_))
  · conv => lhs; unfold laws_FnNames.j2
    have ef : ∀ s, impl_FoldName.f s = some (foldR s) := names_fold_eq
    unfold impl_NameOf.f spec_FoldName.f
    simp only [et, ef, Option.bind_some, bne_self_eq_false, if_true, Bool.false_eq_true, if_false]
    have last : (if (foldR t).2 = true then (if (foldR (foldR t).1).2 = true then (some ((foldR (foldR t).1).1.toList == (foldR t).1.toList)) else (some false)) else (some true)) = some true := by
      by_cases h : (foldR t).2 = true
      · rw [fold_twice t h, if_pos h, if_pos h]
        simp
      · rw [if_neg h]
    simp only [last]
  · simp
    exact Ev.now _
theorem names_j1 {l : List Int} (hl : Bytes l) (s : ByteArray) (hs : s.size ≤ 60) (hg : goodL s.data.toList = true) (hne : s.data.toList ≠ []) :
    Ev (fun k => laws_FnNames.j1 k l s ((labelsL s.data.toList).map mkB) (mkB (parL s.data.toList)) true) true := by
  obtain ⟨w, w1, w2⟩ := names_wild s (by omega)
  have hp : (mkB (parL s.data.toList)).size ≤ 60 := by rw [mkB_size]; have := parL_len s.data.toList; rw [← size_len] at this; omega
  have gp := good_par hg
  obtain ⟨q1, q2⟩ := labels_par hg hne
  have hlen : (labelsL s.data.toList).length ≤ 100 := by
    unfold labelsL
    split
    · simp
    · have := splitL_len 46 s.data.toList; rw [← size_len] at this; omega
  have e1 : impl_LabelsOf.f (mkB (parL s.data.toList)) = some (((labelsL s.data.toList).map mkB).drop 1, true) := by
    rw [labR_impl _ (by omega)]
    unfold labR
    rw [mkB_data, if_pos gp, q1, List.map_drop]
  have e2 : impl_IsBelow.f s (mkB (parL s.data.toList)) = some (true, true) := by
    rw [names_below _ _ (by omega) (by omega) hg (by rw [mkB_data]; exact gp), mkB_data, (bel_iff _ _).2 (bel_par _)]
  refine Ev.step (f := fun k => (impl_WildOf.f k s).bind fun bt363 => (spec_WildOf.f k s).bind fun bt365 => (laws_sameTexts.f k (((labelsL s.data.toList).map mkB).drop 1) (((labelsL s.data.toList).map mkB).drop 1)).bind fun t371 => (if t371 = true then (if (bt363.2 != bt365.2) = true then (some false) else (if bt363.1.toList = bt365.1.toList then (laws_FnNames.j2 k l) else (some false))) else (some false))) (fun k => ?_) (Ev.bind w2 (Ev.bind w1 (Ev.bind (same_ev _ (by rw [List.length_drop, List.length_map]; omega)) ?_)))
  · conv => lhs; unfold laws_FnNames.j1
    simp only [e1, e2, Option.bind_some, if_true, if_pos (show 1 ≤ (((labelsL s.data.toList).map mkB).length : Int) by rw [List.length_map]; omega)]
  · simp only [if_true, bne_self_eq_false, Bool.false_eq_true, if_false]
    exact names_j2 hl
theorem FnNames : laws_FnNames.Pure := by
  intro l0 l1 hm0 _ hw0 hm1 _ hw1
  suffices h : Ev (fun k => laws_FnNames.f k l0 l1) true from h.rounds
  by_cases h : (wrap64 ((l0.length : Int) + (l1.length : Int))) > 1048576
  · exact Ev.congr (fun k => by unfold laws_FnNames.f; rw [if_pos h]) (Ev.now true)
  · have hl1 := bytes_of hw1
    obtain ⟨s, at2, sd2, e, hs, _⟩ := name_some (bytes_of hw0) (at_ := 0) (sd := 0) (n := 0) ⟨by omega, by omega⟩ (by omega)
    have ed : Ev (fun k => spec_DrawLabelsOf.f k l0) s := Ev.congr (fun k => rfl) (Ev.bind (Ev.congr (f := fun k => (spec_l1Cur_name.f k l0 0 0).bind fun bt295 => some bt295.1) (fun k => rfl) (Ev.bind e (Ev.now _))) (Ev.now _))
    have hll : (labR s).1.length < 1099511627776 := by
      unfold labR
      split
      · show ((labelsL s.data.toList).map mkB).length < _
        rw [List.length_map]
        unfold labelsL
        split
        · simp
        · have := splitL_len 46 s.data.toList; rw [← size_len] at this; omega
      · simp
    have hfin : (labR s).2 = goodL s.data.toList := by
      unfold labR
      by_cases hg : goodL s.data.toList = true
      · rw [if_pos hg, hg]
      · rw [if_neg hg, Bool.eq_false_iff.mpr hg]
    refine Ev.congr (fun k => by unfold laws_FnNames.f; rw [if_neg h]) (Ev.bind ed (Ev.bind (Ev.congr (f := fun _ => some (labR s)) (fun k => labR_impl s (by omega)) (Ev.now _)) (Ev.bind (labR_spec s (by omega)) (Ev.bind (Ev.congr (f := fun _ => some (parR s)) (fun k => parR_impl s (by omega)) (Ev.now _)) (Ev.bind (parR_spec s (by omega)) ?_)))))
    simp only [bne_self_eq_false, if_true, Bool.false_eq_true, if_false]
    refine Ev.bind (same_ev _ hll) ?_
    unfold impl_GoodName.f
    simp only [hfin, bne_self_eq_false, if_true, Bool.false_eq_true, if_false, Option.bind_some]
    by_cases hg : goodL s.data.toList = true
    · have el : labR s = ((labelsL s.data.toList).map mkB, true) := by unfold labR; rw [if_pos hg]
      rw [el, hg]
      have en := labels_name s hg
      by_cases hne : s.data.toList = []
      · have ep : parR s = ((⟨#[]⟩ : ByteArray), false) := by unfold parR; rw [if_pos hg, if_pos (by rw [Lib.toList_data]; exact hne)]
        rw [ep]
        have h0 : ((labelsL s.data.toList).map mkB).length = 0 := by rw [hne]; rfl
        refine Ev.step (f := fun k => laws_FnNames.j1 k l1 s ((labelsL s.data.toList).map mkB) (⟨#[]⟩ : ByteArray) false) (fun k => ?_) (Ev.step (fun k => ?_) (names_j2 hl1))
        · conv => lhs; unfold laws_FnNames.j0
          unfold impl_NameOf.f
          simp [en, h0]
        · rfl
      · have ep : parR s = (mkB (parL s.data.toList), true) := by unfold parR; rw [if_pos hg, if_neg (by rw [Lib.toList_data]; exact hne)]
        rw [ep]
        have h0 := (labels_par hg hne).2
        have hd : decide ((((labelsL s.data.toList).map mkB).length : Int) > 0) = true := decide_eq_true (by rw [List.length_map]; omega)
        refine Ev.step (fun k => ?_) (names_j1 hl1 s hs hg hne)
        conv => lhs; unfold laws_FnNames.j0
        unfold impl_NameOf.f
        simp only [en, hd, Option.bind_some, if_true, bne_self_eq_false, Bool.false_eq_true, if_false]
    · have el : labR s = ([], false) := by unfold labR; rw [if_neg hg]
      have ep : parR s = ((⟨#[]⟩ : ByteArray), false) := by unfold parR; rw [if_neg hg]
      rw [el, ep, Bool.eq_false_iff.mpr hg]
      refine Ev.step (f := fun k => laws_FnNames.j1 k l1 s ([] : List ByteArray) (⟨#[]⟩ : ByteArray) false) (fun k => ?_) (Ev.step (fun k => ?_) (names_j2 hl1))
      · rfl
      · rfl
end Go.Proofs.YtiipkjehlaenkaaDoor.Pure
