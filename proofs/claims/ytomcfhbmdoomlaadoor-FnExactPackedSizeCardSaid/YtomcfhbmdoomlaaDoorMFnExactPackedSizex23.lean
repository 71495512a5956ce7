/- FnExactPackedSize: part 24 of 27 of my texts for this claim, joined; the theorem stands in the last. Conditions: none beyond the statement's. -/
import Derived.Test.YtomcfhbmdoomlaaDoorMFnExactPackedSizex22
import Derived.Test.YtomcfhbmdoomlaaDoorMFnExactPackedSizex16
import Derived.Test.YtomcfhbmdoomlaaDoorMFnExactPackedSizex10
import Derived.Test.YtomcfhbmdoomlaaDoorMFnExactPackedSizex6
import Derived.Test.YtomcfhbmdoomlaaDoorMFnExactPackedSizex17
import Derived.Test.YtomcfhbmdoomlaaDoorMFnExactPackedSizex11
import Derived.Test.YtomcfhbmdoomlaaDoorMFnExactPackedSizex0
import Derived.Test.YtomcfhbmdoomlaaDoorMFnExactPackedSizex1
-- PurePack
/- Packing names: the reference and the program return the same. Conditions: the texts' sizes. -/
namespace Go.Proofs.YtomcfhbmdoomlaaDoor.Pure
open Go.RowKit Go.Proofs.YtomcfhbmdoomlaaDoor.P Go.Proofs.YtomcfhbmdoomlaaDoorW.PrintWords Go.Proofs.YtomcfhbmdoomlaaDoorW.PrintLast
set_option linter.unusedVariables false
set_option linter.unusedSimpArgs false
theorem pk_rd (l : List ByteArray) (i : Nat) (h : i < l.length) : rdOf ByteArray.empty l (i : Int) = l[i] := by
  unfold rdOf
  rw [Int.toNat_natCast, List.getD_eq_getElem?_getD, List.getElem?_eq_getElem h]
  rfl
theorem specPut_good {b x r : ByteArray} (hb : b.size ≤ 600) (hg : goodL x.data.toList = true) (e1 : Ev (fun k => spec_l2Put.f k b x) r) : Ev (fun k => spec_PutName.f k b x) (if (r.size : Int) > 600 then failP else (r, true)) := by
  have hsz := good_size hg
  rw [← size_len] at hsz
  refine Ev.congr (f := fun k => (spec_GoodName.f k x).bind fun t304 => spec_PutName.j0 k b x (!t304)) (fun k => by unfold spec_PutName.f; rw [if_neg (by omega)]) (Ev.bind (specGood_ev x (by omega)) ?_)
  rw [hg]
  refine Ev.step (f := fun k => (spec_l2Put.f k b x).bind fun t305 => (if (t305.size : Int) > 600 then (some failP) else (some (t305, true)))) (fun k => rfl) (Ev.bind e1 ?_)
  by_cases h : (r.size : Int) > 600
  · simp only [if_pos h]; exact Ev.now _
  · simp only [if_neg h]; exact Ev.now _
theorem specPut_bad {b x : ByteArray} (hb : b.size ≤ 600) (hx : x.size ≤ 1048576) (hg : goodL x.data.toList = false) : Ev (fun k => spec_PutName.f k b x) failP := by
  refine Ev.congr (f := fun k => (spec_GoodName.f k x).bind fun t304 => spec_PutName.j0 k b x (!t304)) (fun k => by unfold spec_PutName.f; rw [if_neg (by omega)]) (Ev.bind (specGood_ev x (by omega)) ?_)
  rw [hg]
  exact Ev.step (f := fun _ => some failP) (fun k => rfl) (Ev.now _)
theorem pack_loops (l : List ByteArray) (hl : l.length ≤ 20) (hs : ∀ x ∈ l, x.size ≤ 1048576) : ∀ (m i : Nat) (b : ByteArray), i + m = l.length → b.size ≤ 600 →
    ∃ r, Ev (fun k => spec_PackNames.l0 k b l (l.length : Int) (i : Int)) r ∧ ((∀ x ∈ l.drop i, goodL x.data.toList = true) → Ev (fun k => impl_packed.l0 k b l (l.length : Int) (i : Int)) r) ∧ ((∃ x ∈ l.drop i, goodL x.data.toList = false) → r = failP) ∧ r.1.size ≤ 600
  | 0, i, b, him, hb => by
    refine ⟨(b, true), Ev.step (f := fun _ => some (b, true)) (fun k => ?_) (Ev.now _), fun _ => Ev.step (f := fun _ => some (b, true)) (fun k => ?_) (Ev.now _), ?_, hb⟩
    · show spec_PackNames.l0 (k + 1) b l (l.length : Int) (i : Int) = _
      unfold spec_PackNames.l0
      rw [if_neg (by omega)]
    · show impl_packed.l0 (k + 1) b l (l.length : Int) (i : Int) = _
      unfold impl_packed.l0
      rw [if_neg (by omega)]
    · rintro ⟨x, hx, _⟩
      rw [List.drop_of_length_le (by omega)] at hx
      cases hx
  | m + 1, i, b, him, hb => by
    have hi : i < l.length := by omega
    have es : ∀ k, spec_PackNames.l0 (k + 1) b l (l.length : Int) (i : Int) = (spec_PutName.f k b l[i]).bind fun bt => (if bt.2 = true then (spec_PackNames.l0 k bt.1 l (l.length : Int) ((i + 1 : Nat) : Int)) else (some ((⟨#[]⟩ : ByteArray), false))) := fun k => by
      conv => lhs; unfold spec_PackNames.l0
      rw [if_pos (by omega), if_pos (by omega), if_pos (by omega), pk_rd l i hi, w64n (by omega)]
    have ei : ∀ k, impl_packed.l0 (k + 1) b l (l.length : Int) (i : Int) = (impl_putName.f k b l[i]).bind fun t => (if (t.size : Int) > 600 then (some ((⟨#[]⟩ : ByteArray), false)) else (impl_packed.l0 k t l (l.length : Int) ((i + 1 : Nat) : Int))) := fun k => by
      conv => lhs; unfold impl_packed.l0
      rw [if_pos (by omega), if_pos (by omega), if_pos (by omega), pk_rd l i hi, w64n (by omega)]
    have hd : l.drop i = l[i] :: l.drop (i + 1) := List.drop_eq_getElem_cons hi
    by_cases hg : goodL l[i].data.toList = true
    · have hsz := good_size hg
      rw [← size_len] at hsz
      obtain ⟨r, e1, e2⟩ := put_both b hb l[i] hsz hg
      have e3 := specPut_good hb hg e1
      by_cases h6 : (r.size : Int) > 600
      · rw [if_pos h6] at e3
        refine ⟨failP, Ev.step es (Ev.bind e3 (Ev.now _)), fun _ => Ev.step ei (Ev.bind e2 ?_), fun _ => rfl, by decide⟩
        simp only [if_pos h6]
        exact Ev.now _
      · rw [if_neg h6] at e3
        obtain ⟨r2, g1, g2, g3, g4⟩ := pack_loops l hl hs m (i + 1) r (by omega) (by omega)
        refine ⟨r2, Ev.step es (Ev.bind e3 g1), fun h => Ev.step ei (Ev.bind e2 ?_), fun h => g3 ?_, g4⟩
        · simp only [if_neg h6]
          exact g2 fun x hx => h x (by rw [hd]; exact List.mem_cons_of_mem _ hx)
        · obtain ⟨x, hx, hb⟩ := h
          rw [hd] at hx
          rcases List.mem_cons.1 hx with rfl | hx
          · rw [hg] at hb; cases hb
          · exact ⟨x, hx, hb⟩
    · have hgf := Bool.eq_false_iff.mpr hg
      have e3 := specPut_bad hb (hs _ (List.getElem_mem hi)) hgf
      refine ⟨failP, Ev.step es (Ev.bind e3 (Ev.now _)), fun h => absurd (h l[i] (by rw [hd]; exact List.mem_cons_self)) hg, fun _ => rfl, by decide⟩
theorem pack_both (l : List ByteArray) (hs : ∀ x ∈ l, x.size ≤ 1048576) : ∃ r, Ev (fun k => spec_PackNames.f k l) r ∧ Ev (fun k => impl_PackNames.f k l) r ∧ (r.2 = true → l.length ≤ 20 ∧ ∀ x ∈ l, goodL x.data.toList = true) ∧ r.1.size ≤ 600 := by
  by_cases h20 : (l.length : Int) > 20
  · exact ⟨failP, Ev.congr (fun k => by unfold spec_PackNames.f; rw [if_pos h20]; rfl) (Ev.now _), Ev.congr (fun k => by unfold impl_PackNames.f; rw [if_pos h20]; rfl) (Ev.now _), (fun h => by cases h), by decide⟩
  · obtain ⟨r, g1, g2, g3, g4⟩ := pack_loops l (by omega) hs l.length 0 (⟨#[]⟩ : ByteArray) (by omega) (by show 0 ≤ 600; omega)
    rw [List.drop_zero] at g2 g3
    refine ⟨r, Ev.congr (fun k => by unfold spec_PackNames.f; rw [if_neg h20]; rfl) g1, ?_, ?_, g4⟩
    · by_cases hg : ∀ x ∈ l, goodL x.data.toList = true
      · have ha : (l.all fun x => goodL x.data.toList) = true := List.all_eq_true.2 hg
        refine Ev.congr (f := fun k => (impl_packed.f k l).bind fun bt308 => some (bt308.1, bt308.2)) (fun k => by unfold impl_PackNames.f impl_areNames.f; rw [if_neg h20, Option.bind_some, if_pos ha]) (Ev.bind (a := r) (g2 hg) (Ev.now _))
      · have ha : (l.all fun x => goodL x.data.toList) = false := by
          rw [Bool.eq_false_iff]
          intro h
          exact hg (List.all_eq_true.1 h)
        have hx : ∃ x ∈ l, goodL x.data.toList = false := by
          rw [List.all_eq_false] at ha
          obtain ⟨x, h1, h2⟩ := ha
          exact ⟨x, h1, Bool.eq_false_iff.mpr h2⟩
        rw [g3 hx]
        exact Ev.congr (fun k => by unfold impl_PackNames.f impl_areNames.f; rw [if_neg h20, Option.bind_some, if_neg (by rw [ha]; simp)]; rfl) (Ev.now failP)
    · intro h
      refine ⟨by omega, fun x hx => ?_⟩
      by_cases hb : goodL x.data.toList = true
      · exact hb
      · rw [g3 ⟨x, hx, Bool.eq_false_iff.mpr hb⟩] at h
        cases h
end Go.Proofs.YtomcfhbmdoomlaaDoor.Pure

-- PureNB
/- The bytes of a name's labels: the reference's and the program's, and how many they are. Conditions: a good name. -/
namespace Go.Proofs.YtomcfhbmdoomlaaDoor.Pure
open Go.RowKit Go.Proofs.YtomcfhbmdoomlaaDoor.P Go.Proofs.YtomcfhbmdoomlaaDoorW.PrintWords Go.Proofs.YtomcfhbmdoomlaaDoorW.PrintLast
set_option linter.unusedVariables false
set_option linter.unusedSimpArgs false
theorem nb_rd (l : List ByteArray) (i : Nat) (h : i < l.length) : rdOf ByteArray.empty l (i : Int) = l[i] := by
  unfold rdOf
  rw [Int.toNat_natCast, List.getD_eq_getElem?_getD, List.getElem?_eq_getElem h]
  rfl
theorem nb_loops (parts : List ByteArray) (hp : ∀ p ∈ parts, p.size ≤ 1000) (hl : parts.length ≤ 1000) : ∀ (m i : Nat) (acc : ByteArray), i + m = parts.length → acc.size + m * 1024 < 1099511627776 →
    ∃ r, Ev (fun k => impl_labelBytes.l0 k acc parts (parts.length : Int) (i : Int)) r ∧ Ev (fun k => spec_l2Bytes.l0 k acc parts (parts.length : Int) (i : Int)) (r ++ (⟨#[0]⟩ : ByteArray)) ∧ r.size = acc.size + ((parts.drop i).map fun p => 1 + p.size).sum ∧ r.size < 1099511627776
  | 0, i, acc, him, ha => by
    refine ⟨acc, Ev.step (f := fun _ => some acc) (fun k => ?_) (Ev.now _), Ev.step (f := fun _ => some (acc ++ (⟨#[0]⟩ : ByteArray))) (fun k => ?_) (Ev.now _), by rw [List.drop_of_length_le (by omega)]; rfl, by omega⟩
    · show impl_labelBytes.l0 (k + 1) acc parts (parts.length : Int) (i : Int) = _
      unfold impl_labelBytes.l0
      rw [if_neg (by omega)]
    · show spec_l2Bytes.l0 (k + 1) acc parts (parts.length : Int) (i : Int) = _
      unfold spec_l2Bytes.l0
      rw [if_neg (by omega), if_pos (by omega)]
  | m + 1, i, acc, him, ha => by
    have hi : i < parts.length := by omega
    have hs : ∀ v : Int, (strOfNums [v]).size = 1 := fun v => by rw [strOfNums_size]; rfl
    have hpi := hp _ (List.getElem_mem hi)
    obtain ⟨r, h1, h2, h3, h4⟩ := nb_loops parts hp hl m (i + 1) (acc ++ (strOfNums [((parts[i].size : Int)) % 256] ++ parts[i])) (by omega) (by
      rw [ByteArray.size_append, ByteArray.size_append, hs]; omega)
    refine ⟨r, Ev.step (fun k => ?_) h1, Ev.step (fun k => ?_) h2, ?_, h4⟩
    · show impl_labelBytes.l0 (k + 1) acc parts (parts.length : Int) (i : Int) = _
      conv => lhs; unfold impl_labelBytes.l0
      rw [if_pos (by omega), if_pos (by omega), if_pos (by omega), nb_rd _ _ hi, Option.bind_some, if_pos (by rw [hs]; omega), if_pos (by rw [ByteArray.size_append, hs]; omega), w64n (by omega)]
    · show spec_l2Bytes.l0 (k + 1) acc parts (parts.length : Int) (i : Int) = _
      conv => lhs; unfold spec_l2Bytes.l0
      rw [if_pos (by omega), if_pos (by omega), if_pos (by omega), nb_rd _ _ hi, Option.bind_some, if_pos (by rw [hs]; omega), if_pos (by rw [ByteArray.size_append, hs]; omega), w64n (by omega)]
    · rw [h3, ByteArray.size_append, ByteArray.size_append, hs, List.drop_eq_getElem_cons hi, List.map_cons, List.sum_cons]
      omega
theorem split_sum : ∀ l : List UInt8, ((splitL 46 l).map fun p => 1 + p.length).sum = l.length + 1
  | [] => rfl
  | x :: xs => by
    have ih := split_sum xs
    unfold splitL
    split
    · rw [List.map_cons, List.sum_cons, ih, List.length_cons, List.length_nil]
      omega
    · cases hs : splitL 46 xs with
      | nil => exact absurd hs (splitL_ne 46 xs)
      | cons p ps =>
        rw [hs, List.map_cons, List.sum_cons] at ih
        rw [List.map_cons, List.sum_cons, List.length_cons, List.length_cons]
        omega
theorem nb_both (s : ByteArray) (h : goodL s.data.toList = true) : ∃ r, Ev (fun k => impl_labelBytes.f k s) r ∧ Ev (fun k => spec_l2Bytes.f k s) (r ++ (⟨#[0]⟩ : ByteArray)) ∧ r.size = (if s.size = 0 then 0 else s.size + 1) := by
  have hg := good_size h
  have hss := size_len s
  obtain ⟨q, e1, e2, e3⟩ := labels_ev s (by omega)
  have e3 := e3 (e2.trans h)
  have hlen : (labelsL s.data.toList).length ≤ 61 := by
    unfold labelsL
    split
    · simp
    · have := splitL_len 46 s.data.toList; omega
  obtain ⟨r, h1, h2, h3, h4⟩ := nb_loops ((labelsL s.data.toList).map mkB) (by
    intro p hp
    obtain ⟨x, hx, rfl⟩ := List.mem_map.1 hp
    rw [mkB_size]
    unfold labelsL at hx
    split at hx
    · cases hx
    · have := splitL_part 46 _ x hx; omega) (by rw [List.length_map]; omega) _ 0 (⟨#[]⟩ : ByteArray) (Nat.zero_add _) (by rw [List.length_map]; show 0 + _ < _; omega)
  refine ⟨r, ?_, ?_, ?_⟩
  · refine Ev.congr (f := fun k => impl_labelBytes.l0 k (⟨#[]⟩ : ByteArray) ((labelsL s.data.toList).map mkB) (((labelsL s.data.toList).map mkB).length : Int) 0) (fun k => ?_) h1
    unfold impl_labelBytes.f
    rw [labelsOf_eq s (by omega)]
    rfl
  · refine Ev.congr (f := fun k => (spec_l1Labels.f k s).bind fun bt137 => (spec_l2Bytes.l0 k (⟨#[]⟩ : ByteArray) bt137.1 (bt137.1.length : Int) 0)) (fun k => rfl) (Ev.bind e1 ?_)
    rw [e3]
    exact h2
  · rw [h3, List.drop_zero, List.map_map]
    have e : ((fun p : ByteArray => 1 + p.size) ∘ mkB) = fun p => 1 + p.length := by funext p; show 1 + (mkB p).size = _; rw [mkB_size]
    rw [e]
    unfold labelsL
    by_cases h0 : s.data.toList = []
    · rw [if_pos h0, if_pos (by rw [hss, h0]; rfl)]; rfl
    · rw [if_neg h0, if_neg (by rw [hss]; have := List.length_pos_iff.2 h0; omega), split_sum, ← hss]
      show 0 + (s.size + 1) = _
      omega
end Go.Proofs.YtomcfhbmdoomlaaDoor.Pure

-- PureSz
/- The laws' own helpers on lists of texts: the bulk, and the copy. Conditions: the lists' lengths. -/
namespace Go.Proofs.YtomcfhbmdoomlaaDoor.Pure
open Go.RowKit Go.Proofs.YtomcfhbmdoomlaaDoor.P Go.Proofs.YtomcfhbmdoomlaaDoorW.PrintWords Go.Proofs.YtomcfhbmdoomlaaDoorW.PrintLast
set_option linter.unusedVariables false
set_option linter.unusedSimpArgs false

theorem sz_rd (l : List ByteArray) (i : Nat) (h : i < l.length) : rdOf ByteArray.empty l (i : Int) = l[i] := by
  unfold rdOf
  rw [Int.toNat_natCast, List.getD_eq_getElem?_getD, List.getElem?_eq_getElem h]
  rfl
theorem sz_w {n : Nat} (h : n < 4611686018427387904) : wrap64 ((n : Int) + 1) = ((n + 1 : Nat) : Int) := by unfold wrap64; omega
theorem szS_loop (l : List ByteArray) (hs : ∀ x ∈ l, x.size ≤ maxLen) (hl : l.length < 1099511627776) : ∀ (m i : Nat) (left : Int), i + m = l.length → 0 ≤ left → left ≤ 1048576 →
    ∃ t, laws_szStringS.l0 (m + 1) l left (i : Int) = some t ∧ (0 ≤ t → ∀ j, i ≤ j → ∀ h : j < l.length, l[j].size ≤ 1048576)
  | 0, i, left, him, h0, h1 => by
    refine ⟨left, ?_, fun _ j hj h => by omega⟩
    unfold laws_szStringS.l0
    rw [if_neg (by omega)]
  | m + 1, i, left, him, h0, h1 => by
    have hi : i < l.length := by omega
    have hsz := hs _ (List.getElem_mem hi)
    simp only [maxLen] at hsz
    have hw : wrap64 (left - (l[i].size : Int)) = left - (l[i].size : Int) := by unfold wrap64; omega
    by_cases hn : left - (l[i].size : Int) < 0
    · refine ⟨-1, ?_, fun h => by omega⟩
      unfold laws_szStringS.l0
      rw [if_pos (by omega), if_pos (by omega), sz_rd l i hi, hw, if_pos hn]
    · obtain ⟨t, g1, g2⟩ := szS_loop l hs hl m (i + 1) (left - (l[i].size : Int)) (by omega) (by omega) (by omega)
      refine ⟨t, ?_, fun ht j hj h => ?_⟩
      · unfold laws_szStringS.l0
        rw [if_pos (by omega), if_pos (by omega), sz_rd l i hi, hw, if_neg hn, sz_w (by omega), g1]
      · by_cases e : j = i
        · subst e; omega
        · exact g2 ht j (by omega) h
theorem szS_ev (l : List ByteArray) (hs : ∀ x ∈ l, x.size ≤ maxLen) (hl : l.length ≤ maxLen) : ∃ t, Ev (fun k => laws_szStringS.f k l 1048576) t ∧ (0 ≤ t → l.length ≤ 1048576 ∧ ∀ x ∈ l, x.size ≤ 1048576) := by
  simp only [maxLen] at hl
  have hw : wrap64 (1048576 - (l.length : Int)) = 1048576 - (l.length : Int) := by unfold wrap64; omega
  by_cases hn : 1048576 - (l.length : Int) < 0
  · refine ⟨-1, Ev.congr (fun k => ?_) (Ev.now _), fun h => by omega⟩
    unfold laws_szStringS.f
    rw [hw, if_pos hn]
  · obtain ⟨t, g1, g2⟩ := szS_loop l hs (by omega) l.length 0 (1048576 - (l.length : Int)) (by omega) (by omega) (by omega)
    refine ⟨t, Ev.of (fun k => laws_szStringS.mono _ _ _) (k := l.length + 1) ?_, fun ht => ⟨by omega, fun x hx => ?_⟩⟩
    · unfold laws_szStringS.f
      rw [hw, if_neg hn]
      exact g1
    · obtain ⟨j, hj, rfl⟩ := List.mem_iff_getElem.1 hx
      exact g2 ht j (by omega) hj
theorem toS_loop (l : List ByteArray) (hl : l.length < 1099511627776) : ∀ (m i : Nat) (x : List ByteArray), i + m = l.length → x.length = l.length → x.take i = l.take i →
    laws_toStringS.l0 (m + 1) l x (i : Int) = some l
  | 0, i, x, him, hx, ht => by
    unfold laws_toStringS.l0
    rw [if_neg (by omega)]
    rw [List.take_of_length_le (by omega), List.take_of_length_le (by omega)] at ht
    rw [ht]
  | m + 1, i, x, him, hx, ht => by
    have hi : i < l.length := by omega
    unfold laws_toStringS.l0
    rw [if_pos (by omega), if_pos (by omega), if_pos (by omega), sz_rd l i hi, sz_w (by omega), Int.toNat_natCast]
    refine toS_loop l hl m (i + 1) _ (by omega) (by rw [List.length_set]; exact hx) ?_
    rw [List.take_add_one, List.take_add_one, List.getElem?_eq_getElem hi, List.take_set, ht, List.getElem?_set_self (by omega)]
    congr 1
    rw [List.set_eq_of_length_le (by rw [List.length_take]; omega)]
theorem toS_ev (l : List ByteArray) (hl : l.length ≤ 1048576) : Ev (fun k => laws_toStringS.f k l) l := by
  refine Ev.of (fun k => laws_toStringS.mono _ _) (k := l.length + 1) ?_
  unfold laws_toStringS.f
  rw [if_pos (by omega), if_pos (by omega), Int.toNat_natCast]
  exact toS_loop l (by omega) l.length 0 _ (by omega) (by simp) (by simp)
end Go.Proofs.YtomcfhbmdoomlaaDoor.Pure

-- F46
-- By my own call of the kit's print (wip/tools/pp.py).
namespace Go.Proofs.YtomcfhbmdoomlaaDoor.P
open Go.RowKit Go.Proofs.YtomcfhbmdoomlaaDoorW.PrintWords Go.Proofs.YtomcfhbmdoomlaaDoorW.PrintLast Go.Proofs.YtomcfhbmdoomlaaDoorW.PrintMore
attribute [local go_sem] max2_int min2_int max_two min_two max_three min_three max_four min_four
set_option linter.unusedVariables false
set_option linter.unusedSimpArgs false

/-! ### laws_markText: function 46 -/
def laws_markText.l0 : Nat → Int → ByteArray → Option (ByteArray)
  | 0, _, _ => none
  | k + 1, x0, x3 => if x0 > 0 then ((some (([(wrap64 (48 + (Int.tmod x0 10))) % 256] : List Int) : List Int)).bind fun y256 => (if (strOfNums y256).size + x3.size ≤ 9223372036854775807 then (laws_markText.l0 k (wrap64 (Int.tdiv x0 10)) ((strOfNums y256) ++ x3)) else (none))) else (if 1 + x3.size ≤ 9223372036854775807 then (some ((⟨#[109]⟩ : ByteArray) ++ x3)) else (none))
def laws_markText.f (k : Nat) (a0 : Int) : Option (ByteArray) := if a0 ≤ 0 then (some (⟨#[109, 48]⟩ : ByteArray)) else (laws_markText.l0 k a0 (⟨#[]⟩ : ByteArray))
theorem laws_markText.mono_l : ∀ k, (∀ y0 y1, LeO (laws_markText.l0 k y0 y1) (laws_markText.l0 (k + 1) y0 y1))
  | 0 => fun _ _ r h => by simp [laws_markText.l0] at h
  | k + 1 => by
    have ih0 := laws_markText.mono_l k
    · intro y0 y1
      unfold laws_markText.l0
      repeat' first
      | (with_reducible exact ih0 _ _)
      | (with_reducible exact LeO.refl _)
      | (with_reducible exact LeO.none _)
      | (with_reducible refine LeO.ite ?_ ?_)
      | (with_reducible refine LeO.bind ?_ (fun _ => ?_))
      | exact ih0 _ _
      | exact LeO.none _
      | refine LeO.ite ?_ ?_
      | refine LeO.bind ?_ (fun _ => ?_)
theorem laws_markText.mono : ∀ a0 k, LeO (laws_markText.f k a0) (laws_markText.f (k + 1) a0) := by
  intro a0 k
  have ih0 := laws_markText.mono_l k
  unfold laws_markText.f
  repeat' first
      | (with_reducible exact ih0 _ _)
      | (with_reducible exact LeO.refl _)
      | (with_reducible exact LeO.none _)
      | (with_reducible refine LeO.ite ?_ ?_)
      | (with_reducible refine LeO.bind ?_ (fun _ => ?_))
      | exact ih0 _ _
      | exact LeO.none _
      | refine LeO.ite ?_ ?_
      | refine LeO.bind ?_ (fun _ => ?_)
set_option maxHeartbeats 8000000 in
set_option maxRecDepth 100000 in
theorem laws_markText.calls (k : Nat) (a0 : Int) (r : ByteArray) (w : World) (h : laws_markText.f k a0 = some r) :
    Calls Tryd.prog 46 #[.int .i64 a0] w fun e w' => e = .returned (.string r) ∧ Below w.heap.size w w' := by
  have HB := Aside0.mk (Below.refl w.heap.size w)
  have H : (if a0 ≤ 0 then (some (⟨#[109, 48]⟩ : ByteArray)) else (laws_markText.l0 k a0 (⟨#[]⟩ : ByteArray))) = some r := h
  clear h
  by_cases c2 : a0 ≤ 0
  · rw [if_pos c2] at H
    have c2b0 : decide (a0 ≤ 0) = true := decide_eq_true c2
    clear c2
    obtain rfl := Option.some.inj H
    go_enter Tryd.func46, Tryd.ntmps46
    go_wp2
    go_ret
    exact ⟨by first | rfl | (simp [errW_none, errW_some] <;> rfl) | (simp [*, errW_none, errW_some] <;> rfl), by repeat (first | (with_reducible first | exact HB.out | apply below_alloc | apply pw_below_drewN | apply below_drew1) | exact HB.out)⟩
  · rw [if_neg c2] at H
    have c2b0 : decide (a0 ≤ 0) = false := decide_eq_false c2
    clear c2
    have H' := Aside0.mk H
    clear H
    go_enter Tryd.func46, Tryd.ntmps46
    go_wp2
    go_loopg [0, 3] k (fun kq v0 v3 w' => ∃ (x0_1 : Int) (x3_1 : ByteArray), v0 = .int .i64 x0_1 ∧ v3 = .string x3_1 ∧ Aside0 (laws_markText.l0 kq x0_1 x3_1 = some r) ∧ Aside0 (kq ≤ k) ∧ Aside0 (Below w.heap.size w w'))
    case atStart => exact ⟨(a0), ((⟨#[]⟩ : ByteArray)), (by first | rfl | (simp; done) | (simp [*]; done)), (by first | rfl | (simp; done) | (simp [*]; done)), H', ⟨Nat.le_refl _⟩, ⟨by repeat (first | (with_reducible first | exact HB.out | apply below_alloc | apply pw_below_drewN | apply below_drew1) | exact HB.out)⟩⟩
    case round =>
      clear H'
      try clear c2
      try clear c2b0
      try clear p2
      obtain ⟨x0_1, x3_1, rfl, rfl, HA, HK1, HB⟩ := hrel
      cases gk with
      | zero => exact absurd HA.out (by simp [laws_markText.l0])
      | succ k1 =>
        have H := HA.out
        clear HA
        simp only [laws_markText.l0] at H
        by_cases c3 : x0_1 > 0
        · rw [if_pos c3] at H
          have c3b0 : decide (0 < x0_1) = true := decide_eq_true c3
          clear c3
          obtain ⟨y256, hy256⟩ : ∃ y_ : List Int, y_ = (([(wrap64 (48 + (Int.tmod x0_1 10))) % 256] : List Int)) := ⟨_, rfl⟩
          replace H : (if (strOfNums y256).size + x3_1.size ≤ 9223372036854775807 then (laws_markText.l0 k1 (wrap64 (Int.tdiv x0_1 10)) ((strOfNums y256) ++ x3_1)) else (none)) = some r := by first | (rw [hy256]; with_reducible exact H) | (have H2_ := (Option.bind_some _ _).symm.trans H; rw [hy256]; with_reducible exact H2_) | (have H2_ := (Option.bind_some _ _).symm.trans H; with_reducible exact H2_) | with_reducible exact H | (rw [hy256]; exact H) | exact H
          have Ny256 := Aside0.mk hy256
          clear hy256
          by_cases c4 : (strOfNums y256).size + x3_1.size ≤ 9223372036854775807
          · rw [if_pos c4] at H
            have c4b0 := eq_true c4
            have c4b1 : decide ((strOfNums y256).size + x3_1.size ≤ 9223372036854775807) = true := decide_eq_true c4
            try have c4b2 : (9223372036854775807 < (strOfNums y256).size + x3_1.size) = False := eq_false (Nat.not_lt.2 c4)
            have H' := Aside0.mk H
            clear H
            go_wp2_with (first | ((with_reducible refine gate_dst (N := 12) rfl ?_); refine Kd.R_lit (Kd.int .u8) _ 5 ?hg (N := 12) ?hd (xs := ([(wrap64 (48 + (Int.tmod x0_1 10))) % 256] : List Int)) (inner := [.int .u8 ((wrap64 (48 + (Int.tmod x0_1 10))) % 256)]) (ok := fun _ => True) (okp := fun _ => True) ?hr ?hp (fun _ hk => hk) trivial (Below.refl _ _) (Nat.le_refl _) (by simp) ?_; (case hd => rfl); (case hg => rfl); (case hr => first | (go_simp; done) | (go_simp; rfl)); (case hp => exact (Reps.one (show Kd.M (Kd.int .u8) _ _ _ ((wrap64 (48 + (Int.tmod x0_1 10))) % 256) [.int .u8 ((wrap64 (48 + (Int.tmod x0_1 10))) % 256)] from rfl) (Reps.none _ _))); intro v257 w5 ho6 hb hg_ hnew_; clear hg_ hnew_; (first | rw [← Ny256.out] at ho6 | (simp only [Int.reduceToNat] at ho6; rw [← Ny256.out] at ho6)); have n0_ := Aside0.mk (Kd.R_lower ho6 (below_size (by repeat (first | (with_reducible first | exact HB.out | apply below_alloc | apply pw_below_drewN | apply below_drew1) | exact HB.out)))); have n1_ := Aside0.mk (below_step (by repeat (first | (with_reducible first | exact HB.out | apply below_alloc | apply pw_below_drewN | apply below_drew1) | exact HB.out)) hb); clear HB; have HO258 := n0_; have HB := n1_; clear n0_ n1_; clear hb ho6; have hcv7 := own_string (P := Tryd.prog) Tryd.underlying44 Tryd.underlying5 Tryd.underlying9 (Kd.own_of_R HO258.out)))
            go_roundg k1
            case measure => have := HK1.out; omega
            case rel => exact ⟨(wrap64 (Int.tdiv x0_1 10)), ((strOfNums y256) ++ x3_1), (by first | rfl | (simp; done) | (simp [*]; done)), (by first | rfl | (simp; done) | (simp [*]; done)), H', ⟨by have := HK1.out; omega⟩, ⟨by repeat (first | (with_reducible first | exact HB.out | apply below_alloc | apply pw_below_drewN | apply below_drew1) | exact HB.out)⟩⟩
          · rw [if_neg c4] at H
            exact absurd H (by simp)
        · rw [if_neg c3] at H
          have c3b0 : decide (0 < x0_1) = false := decide_eq_false c3
          clear c3
          by_cases c8 : 1 + x3_1.size ≤ 9223372036854775807
          · rw [if_pos c8] at H
            have c8b0 := eq_true c8
            have c8b1 : decide (1 + x3_1.size ≤ 9223372036854775807) = true := decide_eq_true c8
            try have c8b2 : (9223372036854775807 < 1 + x3_1.size) = False := eq_false (Nat.not_lt.2 c8)
            obtain rfl := Option.some.inj H
            go_wp2
            go_ret
            exact ⟨by first | rfl | (simp [errW_none, errW_some] <;> rfl) | (simp [*, errW_none, errW_some] <;> rfl), by repeat (first | (with_reducible first | exact HB.out | apply below_alloc | apply pw_below_drewN | apply below_drew1) | exact HB.out)⟩
          · rw [if_neg c8] at H
            exact absurd H (by simp)

end Go.Proofs.YtomcfhbmdoomlaaDoor.P
