/- FnExactSortNames: part 25 of 26 of my texts for this claim, joined; the theorem stands in the last. Conditions: none beyond the statement's. -/
import Derived.Test.YtggfgfehlcpnmaaDoorMFnExactSortNamesx21
import Derived.Test.YtggfgfehlcpnmaaDoorMFnExactSortNamesx12
import Derived.Test.YtggfgfehlcpnmaaDoorMFnExactSortNamesx6
import Derived.Test.YtggfgfehlcpnmaaDoorMFnExactSortNamesx13
import Derived.Test.YtggfgfehlcpnmaaDoorMFnExactSortNamesx5
import Derived.Test.YtggfgfehlcpnmaaDoorMFnExactSortNamesx23
-- PureSortN
/- The reference's SortNames: names are put to their places one by one; it is the same list. Conditions: the texts' sizes. -/
namespace Go.Proofs.YtggfgfehlcpnmaaDoor.Pure
open Go.RowKit Go.Proofs.YtggfgfehlcpnmaaDoor.P Go.Proofs.YtggfgfehlcpnmaaDoorW.PrintWords Go.Proofs.YtggfgfehlcpnmaaDoorW.PrintLast
set_option linter.unusedVariables false
set_option linter.unusedSimpArgs false
theorem sn_rd (L : List (List UInt8)) (i : Nat) (h : i < L.length) : rdOf ByteArray.empty (L.map mkB) (i : Int) = mkB L[i] := by
  unfold rdOf
  rw [Int.toNat_natCast, List.getD_eq_getElem?_getD, List.getElem?_eq_getElem (by rw [List.length_map]; exact h)]
  simp
theorem rd_arr (l : List ByteArray) (i : Nat) (h : i < l.length) : rdOf ByteArray.empty l (i : Int) = l[i] := by
  unfold rdOf
  rw [Int.toNat_natCast, List.getD_eq_getElem?_getD, List.getElem?_eq_getElem h]
  rfl
def Rising (L : List (List UInt8)) : Prop := L.Pairwise fun x y => ordL x y < 0
theorem rising_put (L : List (List UInt8)) (s : List UInt8) (i : Nat) (hi : i ≤ L.length) (h : Rising L) (h1 : ∀ j (hj : j < L.length), j < i → ordL L[j] s < 0) (h2 : ∀ hi' : i < L.length, ordL s L[i] < 0) :
    Rising (L.take i ++ [s] ++ L.drop i) ∧ ∀ x, x ∈ L.take i ++ [s] ++ L.drop i ↔ x ∈ L ∨ x = s := by
  constructor
  · have hp := List.pairwise_iff_getElem.1 h
    rw [List.append_assoc, List.singleton_append]
    refine List.pairwise_append.2 ⟨h.sublist (List.take_sublist _ _), ?_, ?_⟩
    · refine List.pairwise_cons.2 ⟨fun y hy => ?_, h.sublist (List.drop_sublist _ _)⟩
      obtain ⟨j, hj, rfl⟩ := List.mem_iff_getElem.1 hy
      rw [List.length_drop] at hj
      rw [List.getElem_drop]
      have h3 := h2 (by omega)
      by_cases e : j = 0
      · subst e; simpa using h3
      · exact ord_trans h3 (hp i (i + j) (by omega) (by omega) (by omega))
    · intro x hx y hy
      obtain ⟨j, hj, rfl⟩ := List.mem_iff_getElem.1 hx
      rw [List.length_take] at hj
      rw [List.getElem_take]
      have h3 := h1 j (by omega) (by omega)
      rcases List.mem_cons.1 hy with rfl | hy
      · exact h3
      · obtain ⟨k, hk, rfl⟩ := List.mem_iff_getElem.1 hy
        rw [List.length_drop] at hk
        rw [List.getElem_drop]
        exact hp j (i + k) (by omega) (by omega) (by omega)
  · intro x
    have e : x ∈ L ↔ x ∈ L.take i ∨ x ∈ L.drop i := by
      conv => lhs; rw [← List.take_append_drop i L]
      rw [List.mem_append]
    rw [e]
    simp only [List.mem_append, List.mem_singleton]
    constructor
    · rintro ((h | h) | h)
      · exact .inl (.inl h)
      · exact .inr h
      · exact .inl (.inr h)
    · rintro ((h | h) | h)
      · exact .inl (.inl h)
      · exact .inr h
      · exact .inl (.inr h)
theorem put_ev (L : List (List UInt8)) (s : List UInt8) (hL : L.length < 1099511627776) (hg : ∀ x ∈ L, goodL x = true) (hs : goodL s = true) (h : Rising L) : ∀ (m i : Nat), i + m = L.length → (∀ j (hj : j < L.length), j < i → ordL L[j] s < 0) →
    ∃ r, Ev (fun k => spec_l1Put.l0 k (L.map mkB) (mkB s) (i : Int)) (r.map mkB) ∧ Rising r ∧ (∀ x, x ∈ r ↔ x ∈ L ∨ x = s) ∧ r.length ≤ L.length + 1
  | 0, i, him, hb => by
    obtain ⟨p1, p2⟩ := rising_put L s i (by omega) h hb (fun hi => by omega)
    refine ⟨L.take i ++ [s] ++ L.drop i, Ev.step (f := fun _ => some ((L.take i ++ [s] ++ L.drop i).map mkB)) (fun k => ?_) (Ev.now _), p1, p2, by simp; omega⟩
    show spec_l1Put.l0 (k + 1) (L.map mkB) (mkB s) (i : Int) = _
    conv => lhs; unfold spec_l1Put.l0
    rw [List.length_map, if_neg (by omega), if_pos (by omega), if_pos (by omega), Option.bind_some, Int.toNat_natCast, if_pos (by simp; omega), Option.bind_some, if_pos (by simp; omega), Option.bind_some, Option.bind_some, if_pos (by simp; omega)]
    simp
  | m + 1, i, him, hb => by
    have hi : i < L.length := by omega
    have gi := hg _ (List.getElem_mem hi)
    have hsz := good_size gi
    have hsz2 := good_size hs
    have hc := specComp_ev (mkB L[i]) (mkB s) (by rw [mkB_size]; omega) (by rw [mkB_size]; omega) (by rw [mkB_data]; exact gi) (by rw [mkB_data]; exact hs)
    rw [mkB_data, mkB_data] at hc
    have es : ∀ k, spec_l1Put.l0 (k + 1) (L.map mkB) (mkB s) (i : Int) = (spec_l1Compare.f k (mkB L[i]) (mkB s)).bind fun t129 => (if t129 < 0 then (spec_l1Put.l0 k (L.map mkB) (mkB s) ((i + 1 : Nat) : Int)) else (if (mkB L[i]).toList = (mkB s).toList then (some (L.map mkB)) else some ((L.take i ++ [s] ++ L.drop i).map mkB))) := fun k => by
      conv => lhs; unfold spec_l1Put.l0
      rw [List.length_map, if_pos (by omega), if_pos (by omega), sn_rd L i hi, w64n (by omega)]
      congr 1
      funext t
      by_cases ht : t < 0
      · rw [if_pos ht, if_pos ht]
      · rw [if_neg ht, if_neg ht]
        by_cases he : (mkB L[i]).toList = (mkB s).toList
        · rw [if_pos he, if_pos he]
        · rw [if_neg he, if_neg he, if_pos (by omega), Option.bind_some, Int.toNat_natCast, if_pos (by simp; omega), Option.bind_some, if_pos (by simp; omega), Option.bind_some, Option.bind_some, if_pos (by simp; omega)]
          simp
    by_cases h1 : ordL L[i] s < 0
    · obtain ⟨r, g1, g2, g3, g4⟩ := put_ev L s hL hg hs h m (i + 1) (by omega) (fun j hj hji => by
        by_cases e : j = i
        · subst e; exact h1
        · exact hb j hj (by omega))
      refine ⟨r, Ev.step es (Ev.bind hc ?_), g2, g3, g4⟩
      simp only [if_pos h1]
      exact g1
    · by_cases h2 : L[i] = s
      · refine ⟨L, Ev.step es (Ev.bind hc ?_), h, fun x => ⟨fun hx => .inl hx, fun hx => ?_⟩, by omega⟩
        · simp only [if_neg h1, if_pos (show (mkB L[i]).toList = (mkB s).toList by rw [h2])]
          exact Ev.now _
        · rcases hx with hx | hx
          · exact hx
          · rw [hx, ← h2]; exact List.getElem_mem hi
      · have h3 : ordL s L[i] < 0 := by
          have a1 := ord_neg L[i] s
          have a2 := ord_range L[i] s
          have a3 := ord_zero L[i] s
          have : ordL L[i] s ≠ 0 := fun e => h2 (a3.1 e)
          omega
        obtain ⟨p1, p2⟩ := rising_put L s i (by omega) h hb (fun _ => h3)
        refine ⟨L.take i ++ [s] ++ L.drop i, Ev.step es (Ev.bind hc ?_), p1, p2, by simp; omega⟩
        have hne : ¬ (mkB L[i]).toList = (mkB s).toList := by
          rw [Lib.toList_data, Lib.toList_data, mkB_data, mkB_data]
          exact h2
        simp only [if_neg h1, if_neg hne]
        exact Ev.now _
theorem sort_loop (l : List ByteArray) (hl : l.length ≤ 1048576) (hs : ∀ x ∈ l, x.size ≤ 1048576) : ∀ (m i : Nat) (L : List (List UInt8)), i + m = l.length → L.length ≤ i → Rising L → (∀ x, x ∈ L ↔ x ∈ (l.take i).map (·.data.toList)) → (∀ x ∈ l.take i, goodL x.data.toList = true) →
    Ev (fun k => spec_SortNames.l0 k l (L.map mkB) l (l.length : Int) (i : Int)) (sortR l)
  | 0, i, L, him, hLi, hr, hm, hg => by
    rw [List.take_of_length_le (by omega)] at hm hg
    have hall : l.all (fun x => goodL x.data.toList) = true := List.all_eq_true.2 hg
    refine Ev.step (f := fun _ => some (sortR l)) (fun k => ?_) (Ev.now _)
    show spec_SortNames.l0 (k + 1) l (L.map mkB) l (l.length : Int) (i : Int) = _
    conv => lhs; unfold spec_SortNames.l0
    rw [if_neg (by omega)]
    unfold sortR
    rw [hall, Bool.and_true]
    by_cases h60 : (l.length : Int) > 60
    · rw [if_pos h60, decide_eq_false (by omega), if_neg (by simp)]
    · rw [if_neg h60, decide_eq_true (by omega), if_pos rfl]
      rw [sorted_one L (sortL (l.map (·.data.toList))) hr (sortL_sorted _) (fun x => by rw [hm x, sortL_mem])]
  | m + 1, i, L, him, hLi, hr, hm, hg => by
    have hi : i < l.length := by omega
    have hsz := hs _ (List.getElem_mem hi)
    have es : ∀ k, spec_SortNames.l0 (k + 1) l (L.map mkB) l (l.length : Int) (i : Int) = (spec_GoodName.f k l[i]).bind fun t166 => (if t166 = true then ((spec_l1Put.f k (L.map mkB) l[i]).bind fun t167 => (spec_SortNames.l0 k l t167 l (l.length : Int) ((i + 1 : Nat) : Int))) else (some (([] : List ByteArray), false))) := fun k => by
      conv => lhs; unfold spec_SortNames.l0
      rw [if_pos (by omega), if_pos (by omega), if_pos (by omega), rd_arr l i hi, w64n (by omega)]
    have htk : l.take (i + 1) = l.take i ++ [l[i]] := by rw [List.take_add_one, List.getElem?_eq_getElem hi]; rfl
    by_cases hgi : goodL l[i].data.toList = true
    · have hgL : ∀ x ∈ L, goodL x = true := by
        intro x hx
        obtain ⟨z, hz, rfl⟩ := List.mem_map.1 ((hm x).1 hx)
        exact hg z hz
      obtain ⟨r, g1, g2, g3, g4⟩ := put_ev L l[i].data.toList (by omega) hgL hgi hr L.length 0 (by omega) (fun j hj h0 => absurd h0 (Nat.not_lt_zero _))
      rw [data_mkB] at g1
      have ih := sort_loop l hl hs m (i + 1) r (by omega) (by omega) g2 (fun x => by
        rw [g3 x, hm x, htk, List.map_append, List.mem_append]
        simp) (fun x hx => by
        rw [htk] at hx
        rcases List.mem_append.1 hx with hx | hx
        · exact hg x hx
        · rw [List.mem_singleton.1 hx]; exact hgi)
      refine Ev.step es (Ev.bind (specGood_ev l[i] (by omega)) ?_)
      simp only [if_pos hgi]
      exact Ev.bind (a := r.map mkB) (Ev.congr (fun k => rfl) g1) ih
    · have e : sortR l = ([], false) := by
        unfold sortR
        have : l.all (fun x => goodL x.data.toList) = false := by
          rw [List.all_eq_false]
          exact ⟨l[i], List.getElem_mem hi, hgi⟩
        rw [this, Bool.and_false, if_neg (by simp)]
      rw [e]
      refine Ev.step es (Ev.bind (specGood_ev l[i] (by omega)) ?_)
      simp only [if_neg hgi]
      exact Ev.now _
theorem specSort_ev (l : List ByteArray) (hl : l.length ≤ 1048576) (hs : ∀ x ∈ l, x.size ≤ 1048576) : Ev (fun k => spec_SortNames.f k l) (sortR l) :=
  sort_loop l hl hs l.length 0 [] (by omega) (by simp) .nil (fun x => by simp) (fun x hx => by simp at hx)
theorem sortR_len (l : List ByteArray) : (sortR l).1.length ≤ 60 := by
  unfold sortR
  split
  · next h =>
    simp only [Bool.and_eq_true, decide_eq_true_eq] at h
    rw [List.length_map]
    unfold sortL Lib.compact Lib.compactUpTo
    rw [List.length_map]
    refine Nat.le_trans (List.length_filter_le _ _) ?_
    rw [List.length_range, List.length_mergeSort, List.length_map]
    exact h.1
  · simp
end Go.Proofs.YtggfgfehlcpnmaaDoor.Pure

-- PureSz
/- The laws' own helpers on lists of texts: the bulk, and the copy. Conditions: the lists' lengths. -/
namespace Go.Proofs.YtggfgfehlcpnmaaDoor.Pure
open Go.RowKit Go.Proofs.YtggfgfehlcpnmaaDoor.P Go.Proofs.YtggfgfehlcpnmaaDoorW.PrintWords Go.Proofs.YtggfgfehlcpnmaaDoorW.PrintLast
set_option linter.unusedVariables false
set_option linter.unusedSimpArgs false

theorem sz_rd (l : List ByteArray) (i : Nat) (h : i < l.length) : rdOf ByteArray.empty l (i : Int) = l[i] := by
  unfold rdOf
  rw [Int.toNat_natCast, List.getD_eq_getElem?_getD, List.getElem?_eq_getElem h]
  rfl
theorem sz_w {n : Nat} (h : n < 4611686018427387904) : wrap64 ((n : Int) + 1) = ((n + 1 : Nat) : Int) := by unfold wrap64; omega
theorem szS_loop (l : List ByteArray) (hs : ∀ x ∈ l, x.size ≤ maxLen) (hl : l.length < 1099511627776) : ∀ (m i : Nat) (left : Int), i + m = l.length → 0 ≤ left → left ≤ 1048576 →
    ∃ t, laws_szStringS.l0 (m + 1) l left (i : Int) = some t ∧ (0 ≤ t → ∀ j, i ≤ j → ∀ h : j < l.length, l[j].size ≤ 1048576)
  | 0, i, left, him, h0, h1 => by
    refine ⟨left, ?_, fun _ j hj h => by omega⟩
    unfold laws_szStringS.l0
    rw [if_neg (by omega)]
  | m + 1, i, left, him, h0, h1 => by
    have hi : i < l.length := by omega
    have hsz := hs _ (List.getElem_mem hi)
    simp only [maxLen] at hsz
    have hw : wrap64 (left - (l[i].size : Int)) = left - (l[i].size : Int) := by unfold wrap64; omega
    by_cases hn : left - (l[i].size : Int) < 0
    · refine ⟨-1, ?_, fun h => by omega⟩
      unfold laws_szStringS.l0
      rw [if_pos (by omega), if_pos (by omega), sz_rd l i hi, hw, if_pos hn]
    · obtain ⟨t, g1, g2⟩ := szS_loop l hs hl m (i + 1) (left - (l[i].size : Int)) (by omega) (by omega) (by omega)
      refine ⟨t, ?_, fun ht j hj h => ?_⟩
      · unfold laws_szStringS.l0
        rw [if_pos (by omega), if_pos (by omega), sz_rd l i hi, hw, if_neg hn, sz_w (by omega), g1]
      · by_cases e : j = i
        · subst e; omega
        · exact g2 ht j (by omega) h
theorem szS_ev (l : List ByteArray) (hs : ∀ x ∈ l, x.size ≤ maxLen) (hl : l.length ≤ maxLen) : ∃ t, Ev (fun k => laws_szStringS.f k l 1048576) t ∧ (0 ≤ t → l.length ≤ 1048576 ∧ ∀ x ∈ l, x.size ≤ 1048576) := by
  simp only [maxLen] at hl
  have hw : wrap64 (1048576 - (l.length : Int)) = 1048576 - (l.length : Int) := by unfold wrap64; omega
  by_cases hn : 1048576 - (l.length : Int) < 0
  · refine ⟨-1, Ev.congr (fun k => ?_) (Ev.now _), fun h => by omega⟩
    unfold laws_szStringS.f
    rw [hw, if_pos hn]
  · obtain ⟨t, g1, g2⟩ := szS_loop l hs (by omega) l.length 0 (1048576 - (l.length : Int)) (by omega) (by omega) (by omega)
    refine ⟨t, Ev.of (fun k => laws_szStringS.mono _ _ _) (k := l.length + 1) ?_, fun ht => ⟨by omega, fun x hx => ?_⟩⟩
    · unfold laws_szStringS.f
      rw [hw, if_neg hn]
      exact g1
    · obtain ⟨j, hj, rfl⟩ := List.mem_iff_getElem.1 hx
      exact g2 ht j (by omega) hj
theorem toS_loop (l : List ByteArray) (hl : l.length < 1099511627776) : ∀ (m i : Nat) (x : List ByteArray), i + m = l.length → x.length = l.length → x.take i = l.take i →
    laws_toStringS.l0 (m + 1) l x (i : Int) = some l
  | 0, i, x, him, hx, ht => by
    unfold laws_toStringS.l0
    rw [if_neg (by omega)]
    rw [List.take_of_length_le (by omega), List.take_of_length_le (by omega)] at ht
    rw [ht]
  | m + 1, i, x, him, hx, ht => by
    have hi : i < l.length := by omega
    unfold laws_toStringS.l0
    rw [if_pos (by omega), if_pos (by omega), if_pos (by omega), sz_rd l i hi, sz_w (by omega), Int.toNat_natCast]
    refine toS_loop l hl m (i + 1) _ (by omega) (by rw [List.length_set]; exact hx) ?_
    rw [List.take_add_one, List.take_add_one, List.getElem?_eq_getElem hi, List.take_set, ht, List.getElem?_set_self (by omega)]
    congr 1
    rw [List.set_eq_of_length_le (by rw [List.length_take]; omega)]
theorem toS_ev (l : List ByteArray) (hl : l.length ≤ 1048576) : Ev (fun k => laws_toStringS.f k l) l := by
  refine Ev.of (fun k => laws_toStringS.mono _ _) (k := l.length + 1) ?_
  unfold laws_toStringS.f
  rw [if_pos (by omega), if_pos (by omega), Int.toNat_natCast]
  exact toS_loop l (by omega) l.length 0 _ (by omega) (by simp) (by simp)
end Go.Proofs.YtggfgfehlcpnmaaDoor.Pure

-- PureMarkS
/- The laws' own helpers on lists of texts: like lists are found alike, marks that were laid are held. Conditions: the lists' lengths. -/
namespace Go.Proofs.YtggfgfehlcpnmaaDoor.Pure
open Go.RowKit Go.Proofs.YtggfgfehlcpnmaaDoor.P Go.Proofs.YtggfgfehlcpnmaaDoorW.PrintWords Go.Proofs.YtggfgfehlcpnmaaDoorW.PrintLast
set_option linter.unusedVariables false
set_option linter.unusedSimpArgs false

theorem mS_w {n : Nat} (h : n < 4611686018427387904) : wrap64 ((n : Int) + 1) = ((n + 1 : Nat) : Int) := by unfold wrap64; omega
theorem mS_rd (l : List ByteArray) (i : Nat) (h : i < l.length) : rdOf ByteArray.empty l (i : Int) = l[i] := by
  unfold rdOf
  rw [Int.toNat_natCast, List.getD_eq_getElem?_getD, List.getElem?_eq_getElem h]
  rfl

theorem eqS_loop (l : List ByteArray) (hl : l.length < 1099511627776) : ∀ (m i : Nat), i + m = l.length → laws_eqStringS.l0 (m + 1) l l (i : Int) = some true
  | 0, i, h => by
    unfold laws_eqStringS.l0
    rw [if_neg (by omega)]
  | m + 1, i, h => by
    unfold laws_eqStringS.l0
    rw [if_pos (by omega), if_pos (by omega), if_pos (by omega), if_pos rfl, mS_w (by omega), eqS_loop l hl m (i + 1) (by omega)]
theorem eqS_ev (l : List ByteArray) (hl : l.length < 1099511627776) : Ev (fun k => laws_eqStringS.f k l l) true := by
  refine Ev.of (fun k => laws_eqStringS.mono _ _ _) (k := l.length + 1) ?_
  unfold laws_eqStringS.f
  rw [if_pos rfl]
  exact eqS_loop l hl l.length 0 (by omega)

theorem markT_loop : ∀ (n : Nat) (x : Int) (acc : ByteArray), x ≤ n → acc.size + n < 1099511627776 → ∃ t, Ev (fun k => laws_markText.l0 k x acc) t
  | n, x, acc, hx, ha => by
    by_cases h : x > 0
    · have hw : wrap64 (Int.tdiv x 10) = x / 10 := by
        rw [Int.tdiv_eq_ediv_of_nonneg (by omega)]
        unfold wrap64
        omega
      have hs : ∀ v : Int, (strOfNums [v]).size = 1 := fun v => by rw [strOfNums_size]; rfl
      match n, hx, ha with
      | 0, hx, ha => omega
      | n + 1, hx, ha =>
        obtain ⟨t, ht⟩ := markT_loop n (x / 10) (strOfNums [(wrap64 (48 + (Int.tmod x 10))) % 256] ++ acc) (by omega) (by rw [ByteArray.size_append, hs]; omega)
        refine ⟨t, Ev.step (fun k => ?_) ht⟩
        show laws_markText.l0 (k + 1) x acc = _
        conv => lhs; unfold laws_markText.l0
        rw [if_pos h, Option.bind_some, if_pos (by rw [hs]; omega), hw]
    · refine ⟨(⟨#[109]⟩ : ByteArray) ++ acc, Ev.step (f := fun _ => some _) (fun k => ?_) (Ev.now _)⟩
      show laws_markText.l0 (k + 1) x acc = _
      unfold laws_markText.l0
      rw [if_neg h, if_pos (by omega)]
theorem markT_some (x : Int) (hx : x < 549755813888) : ∃ t, Ev (fun k => laws_markText.f k x) t := by
  by_cases h : x ≤ 0
  · refine ⟨(⟨#[109, 48]⟩ : ByteArray), Ev.congr (fun k => ?_) (Ev.now _)⟩
    unfold laws_markText.f
    rw [if_pos h]
  · obtain ⟨t, ht⟩ := markT_loop x.toNat x (⟨#[]⟩ : ByteArray) (by omega) (by show 0 + x.toNat < _; omega)
    refine ⟨t, Ev.congr (fun k => ?_) ht⟩
    unfold laws_markText.f
    rw [if_neg h]
/-- The text of a mark. -/
noncomputable def markT (x : Int) : ByteArray := if h : x < 549755813888 then (markT_some x h).choose else ⟨#[]⟩
theorem markT_ev (x : Int) (h : x < 549755813888) : Ev (fun k => laws_markText.f k x) (markT x) := by
  unfold markT
  rw [dif_pos h]
  exact (markT_some x h).choose_spec
noncomputable def marks (a n : Nat) : List ByteArray := (List.range n).map fun j => markT ((a + j : Nat) : Int)
theorem marks_len (a n : Nat) : (marks a n).length = n := by simp [marks]

theorem markS_loop (a : Nat) (ha : a < 1000000) : ∀ (m i : Nat) (l : List ByteArray), i + m = l.length → l.length < 274877906944 → l.take i = marks a i →
    Ev (fun k => laws_markStringS.l0 k l ((a + i : Nat) : Int) (i : Int)) (((a + l.length : Nat) : Int), marks a l.length)
  | 0, i, l, h, hl, ht => by
    refine Ev.step (f := fun _ => some _) (fun k => ?_) (Ev.now _)
    show laws_markStringS.l0 (k + 1) l ((a + i : Nat) : Int) (i : Int) = _
    unfold laws_markStringS.l0
    rw [if_neg (by omega), show i = l.length by omega] at *
    rw [List.take_length] at ht
    rw [← ht]
  | m + 1, i, l, h, hl, ht => by
    have ih := markS_loop a ha m (i + 1) (l.set i (markT ((a + i : Nat) : Int))) (by rw [List.length_set]; omega) (by rw [List.length_set]; omega) (by
      rw [List.take_set, List.take_add_one, ht, List.getElem?_eq_getElem (by omega)]
      unfold marks
      rw [List.range_succ, List.map_append]
      simp [List.set_append])
    rw [List.length_set] at ih
    refine Ev.step (f := fun k => (laws_markText.f k ((a + i : Nat) : Int)).bind fun t => laws_markStringS.l0 k (l.set i t) ((a + (i + 1) : Nat) : Int) ((i + 1 : Nat) : Int)) (fun k => ?_) (Ev.bind (markT_ev _ (by omega)) ih)
    show laws_markStringS.l0 (k + 1) l ((a + i : Nat) : Int) (i : Int) = _
    conv => lhs; unfold laws_markStringS.l0
    rw [if_pos (by omega), mS_w (by omega), mS_w (by omega)]
    simp only [if_pos (show 0 ≤ (i : Int) by omega), Int.toNat_natCast]
    rfl
theorem markS_ev (a : Nat) (ha : a < 1000000) (l : List ByteArray) (hl : l.length < 274877906944) : Ev (fun k => laws_markStringS.f k l (a : Int)) (((a + l.length : Nat) : Int), marks a l.length) := by
  have := markS_loop a ha l.length 0 l (by omega) hl (by simp [marks])
  exact this

theorem heldS_loop (a n : Nat) (ha : a < 1000000) (hn : n < 274877906944) : ∀ (m i : Nat), i + m = n →
    Ev (fun k => laws_heldStringS.l0 k (marks a n) ((a + i : Nat) : Int) (i : Int)) ((a + n : Nat) : Int)
  | 0, i, h => by
    refine Ev.step (f := fun _ => some _) (fun k => ?_) (Ev.now _)
    show laws_heldStringS.l0 (k + 1) (marks a n) ((a + i : Nat) : Int) (i : Int) = _
    unfold laws_heldStringS.l0
    rw [marks_len, if_neg (by omega), show i = n by omega]
  | m + 1, i, h => by
    have ih := heldS_loop a n ha hn m (i + 1) (by omega)
    have hg : rdOf ByteArray.empty (marks a n) (i : Int) = markT ((a + i : Nat) : Int) := by
      rw [mS_rd _ _ (by rw [marks_len]; omega)]
      simp [marks]
    refine Ev.step (f := fun k => (laws_markText.f k ((a + i : Nat) : Int)).bind fun t => if (rdOf ByteArray.empty (marks a n) (i : Int)).toList = t.toList then laws_heldStringS.l0 k (marks a n) ((a + (i + 1) : Nat) : Int) ((i + 1 : Nat) : Int) else some (-1)) (fun k => ?_) (Ev.bind (markT_ev _ (by omega)) ?_)
    · show laws_heldStringS.l0 (k + 1) (marks a n) ((a + i : Nat) : Int) (i : Int) = _
      conv => lhs; unfold laws_heldStringS.l0
      rw [marks_len, if_pos (by omega), if_pos (by omega), mS_w (by omega), mS_w (by omega)]
      rfl
    · simp only [hg, if_true]
      exact ih
theorem heldS_ev (a n : Nat) (ha : a < 1000000) (hn : n < 274877906944) : Ev (fun k => laws_heldStringS.f k (marks a n) (a : Int)) ((a + n : Nat) : Int) := by
  have := heldS_loop a n ha hn n 0 (by omega)
  exact this
end Go.Proofs.YtggfgfehlcpnmaaDoor.Pure

-- PureFnExactSortNames
/- 'laws.FnExactSortNames' returns true: the reference and the program return the same. Conditions: the texts' sizes. -/
namespace Go.Proofs.YtggfgfehlcpnmaaDoor.Pure
open Go.RowKit Go.Proofs.YtggfgfehlcpnmaaDoor.P Go.Proofs.YtggfgfehlcpnmaaDoorW.PrintWords Go.Proofs.YtggfgfehlcpnmaaDoorW.PrintLast
set_option linter.unusedVariables false
set_option linter.unusedSimpArgs false
theorem FnExactSortNames : ∀ (l : List ByteArray), l.length ≤ maxLen → (∀ x ∈ l, x.size ≤ maxLen) → ∃ k, laws_FnExactSortNames.f k l = some true := by
  intro l hl hs
  suffices h : Ev (fun k => laws_FnExactSortNames.f k l) true from h.rounds
  obtain ⟨t, e0, h0⟩ := szS_ev l hs hl
  refine Ev.congr (fun k => rfl) (Ev.bind e0 ?_)
  by_cases ht : t < 0
  · simp only [if_pos ht]; exact Ev.now _
  · obtain ⟨h1, h2⟩ := h0 (by omega)
    have et := toS_ev l h1
    have e1 := specSort_ev l h1 h2
    have e2 : ∀ l, impl_SortNames.f l = some (sortR l) := fun _ => rfl
    have hlen := sortR_len l
    simp only [if_neg ht]
    refine Ev.bind et (Ev.bind e1 (Ev.bind et ?_))
    simp only [e2, Option.bind_some]
    generalize hr : sortR l = r at e1 hlen
    refine Ev.bind (eqS_ev r.1 (by omega)) ?_
    simp only [if_true, bne_self_eq_false]
    have hh : Ev (fun k => laws_heldStringS.f k (marks 1 r.1.length) 1) ((1 + r.1.length : Nat) : Int) := heldS_ev 1 r.1.length (by omega) (by omega)
    have j2 : Ev (fun k => laws_FnExactSortNames.j2 k (marks 1 r.1.length) ((1 + r.1.length : Nat) : Int) false) true := by
      refine Ev.step (f := fun k => (laws_heldStringS.f k (marks 1 r.1.length) 1).bind fun t258 => (if t258 < 0 then (some false) else (if t258 = ((1 + r.1.length : Nat) : Int) then (some true) else (some false)))) (fun k => rfl) (Ev.bind hh ?_)
      simp only [if_neg (show ¬ ((1 + r.1.length : Nat) : Int) < 0 by omega), if_true]
      exact Ev.now _
    have j1 : Ev (fun k => laws_FnExactSortNames.j1 k l r.1 r.2 r.1 false) true := by
      refine Ev.step (f := fun k => (laws_markStringS.f k r.1 1).bind fun bt247 => ((laws_heldStringS.f k bt247.2 1).bind fun t249 => (if t249 < 0 then (some false) else (if t249 = bt247.1 then ((laws_toStringS.f k l).bind fun t250 => ((impl_SortNames.f t250).bind fun bt253 => ((laws_eqStringS.f k bt253.1 r.1).bind fun t257 => (if t257 = true then (laws_FnExactSortNames.j2 k bt247.2 bt247.1 (bt253.2 != r.2)) else (laws_FnExactSortNames.j2 k bt247.2 bt247.1 true))))) else (some false))))) (fun k => rfl) ?_
      refine Ev.bind (markS_ev 1 (by omega) r.1 (by omega)) (Ev.bind hh ?_)
      simp only [if_neg (show ¬ ((1 + r.1.length : Nat) : Int) < 0 by omega), if_true]
      refine Ev.bind et ?_
      simp only [e2, Option.bind_some, hr]
      refine Ev.bind (eqS_ev r.1 (by omega)) ?_
      simp only [if_true, bne_self_eq_false]
      exact j2
    refine Ev.step (f := fun k => (laws_toStringS.f k l).bind fun t240 => ((laws_eqStringS.f k l t240).bind fun t243 => (if t243 = true then ((laws_markStringS.f k l 1).bind fun bt244 => (if bt244.1 < 0 then (laws_FnExactSortNames.j1 k l r.1 r.2 r.1 true) else ((laws_eqStringS.f k r.1 r.1).bind fun t246 => (if t246 = true then (laws_FnExactSortNames.j1 k l r.1 r.2 r.1 (r.2 != r.2)) else (laws_FnExactSortNames.j1 k l r.1 r.2 r.1 true))))) else (some false)))) (fun k => rfl) ?_
    refine Ev.bind et (Ev.bind (eqS_ev l (by omega)) ?_)
    simp only [if_true]
    refine Ev.bind (markS_ev 1 (by omega) l (by omega)) ?_
    simp only [if_neg (show ¬ ((1 + l.length : Nat) : Int) < 0 by omega)]
    refine Ev.bind (eqS_ev r.1 (by omega)) ?_
    simp only [if_true, bne_self_eq_false]
    exact j1
end Go.Proofs.YtggfgfehlcpnmaaDoor.Pure
