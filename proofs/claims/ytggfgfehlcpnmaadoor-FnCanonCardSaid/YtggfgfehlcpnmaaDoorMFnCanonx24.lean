/- FnCanon: part 25 of 26 of my texts for this claim, joined; the theorem stands in the last. Conditions: none beyond the statement's. -/
import Derived.Test.YtggfgfehlcpnmaaDoorMFnCanonx21
import Derived.Test.YtggfgfehlcpnmaaDoorMFnCanonx15
import Derived.Test.YtggfgfehlcpnmaaDoorMFnCanonx22
import Derived.Test.YtggfgfehlcpnmaaDoorMFnCanonx19
import Derived.Test.YtggfgfehlcpnmaaDoorMFnCanonx4
import Derived.Laws.BitsAllLaws
import Derived.Test.YtggfgfehlcpnmaaDoorMFnCanonx5
import Derived.Test.YtggfgfehlcpnmaaDoorMFnCanonx10
import Derived.Test.YtggfgfehlcpnmaaDoorMFnCanonx6
import Derived.Test.YtggfgfehlcpnmaaDoorMFnCanonx16
-- PureBelI
/- One name below another: what the program returns. Conditions: the texts' sizes. -/
namespace Go.Proofs.YtggfgfehlcpnmaaDoor.Pure
open Go.RowKit Go.Proofs.YtggfgfehlcpnmaaDoor.P Go.Proofs.YtggfgfehlcpnmaaDoorW.PrintWords Go.Proofs.YtggfgfehlcpnmaaDoorW.PrintLast
set_option linter.unusedVariables false
set_option linter.unusedSimpArgs false

/-- Is a text another one, or below it? -/
def belowL (a b : List UInt8) : Bool := b == [] || (a == b || (decide (b.length < a.length) && a.drop (a.length - b.length - 1) == 46 :: b))

theorem implBelow_eq (a b : ByteArray) (ha : a.size < 4611686018427387904) (hb : b.size < 4611686018427387904) : impl_isBelow.f a b = some (belowL a.data.toList b.data.toList) := by
  unfold impl_isBelow.f belowL
  rw [Lib.toList_data, Lib.toList_data]
  by_cases h1 : b.data.toList = []
  · rw [h1]
    by_cases h2 : a.data.toList = []
    · rw [if_pos h2]; rfl
    · rw [if_neg h2, if_pos rfl]; rfl
  · rw [show (b.data.toList == []) = false from beq_eq_false_iff_ne.mpr h1, Bool.false_or]
    by_cases h2 : a.data.toList = b.data.toList
    · rw [if_pos h2, h2]; simp
    · rw [if_neg h2, if_neg h1, if_pos (by omega), show (a.data.toList == b.data.toList) = false from beq_eq_false_iff_ne.mpr h2, Bool.false_or, ← size_len, ← size_len]
      unfold strings_HasSuffix.f stringslite_HasSuffix.f
      have hsz : ((⟨#[46]⟩ : ByteArray) ++ b).size = b.size + 1 := by rw [ByteArray.size_append]; show 1 + b.size = _; omega
      have hdt : ((⟨#[46]⟩ : ByteArray) ++ b).data.toList = 46 :: b.data.toList := by rw [ByteArray.data_append, Array.toList_append]; rfl
      rw [hsz]
      by_cases h3 : b.size < a.size
      · have hw : wrap64 ((a.size : Int) - ((b.size + 1 : Nat) : Int)) = ((a.size - b.size - 1 : Nat) : Int) := by unfold wrap64; omega
        rw [if_pos (by omega), hw, if_pos (by omega), if_pos (by omega), decide_eq_true h3, Bool.true_and, Int.toNat_natCast, ext_end, Lib.toList_data, Lib.toList_data, mkB_data, hdt]
        rfl
      · rw [if_neg (by omega), decide_eq_false h3]
        rfl
end Go.Proofs.YtggfgfehlcpnmaaDoor.Pure

-- PureCanon
/- The order of names and what is below: those below a name stand right behind it. In plain words. Conditions: none. -/
namespace Go.Proofs.YtggfgfehlcpnmaaDoor.Pure
open Go.RowKit Go.Proofs.YtggfgfehlcpnmaaDoor.P Go.Proofs.YtggfgfehlcpnmaaDoorW.PrintWords Go.Proofs.YtggfgfehlcpnmaaDoorW.PrintLast
set_option linter.unusedVariables false
set_option linter.unusedSimpArgs false
def revL (a : List UInt8) : List ByteArray := ((labelsL a).map mkB).reverse
theorem ord_rev (a b : List UInt8) : ordL a b = cmpL (revL a) (revL b) := rfl
theorem split_app : ∀ t b : List UInt8, splitL 46 (t ++ 46 :: b) = splitL 46 t ++ splitL 46 b
  | [], b => by
    show splitL 46 (46 :: b) = [[]] ++ splitL 46 b
    rw [show splitL 46 (46 :: b) = [] :: splitL 46 b by conv => lhs; unfold splitL; rw [if_pos rfl]]
    rfl
  | x :: t, b => by
    have ih := split_app t b
    obtain ⟨p, ps, hp⟩ := List.exists_cons_of_ne_nil (splitL_ne 46 t)
    rw [List.cons_append]
    conv => lhs; unfold splitL
    conv => rhs; rw [show splitL 46 (x :: t) = (if x = 46 then [] :: splitL 46 t else match splitL 46 t with | [] => [[x]] | p :: ps => (x :: p) :: ps) from rfl]
    rw [ih, hp]
    by_cases h : x = 46
    · rw [if_pos h, if_pos h]; rfl
    · rw [if_neg h, if_neg h]; rfl
theorem unL_app : ∀ u v : List (List UInt8), u ≠ [] → v ≠ [] → unL (u ++ v) = unL u ++ 46 :: unL v
  | [], v, h, _ => absurd rfl h
  | [p], v, _, hv => by
    obtain ⟨q, r, rfl⟩ := List.exists_cons_of_ne_nil hv
    rfl
  | p :: q :: r, v, _, hv => by
    have ih := unL_app (q :: r) v (by simp) hv
    show p ++ 46 :: unL ((q :: r) ++ v) = (p ++ 46 :: unL (q :: r)) ++ 46 :: unL v
    rw [ih]
    simp
theorem bel_labels (a b : List UInt8) : belowL a b = true ↔ ∃ u, labelsL a = u ++ labelsL b := by
  by_cases hb : b = []
  · subst hb
    refine ⟨fun _ => ⟨labelsL a, by rw [show labelsL [] = [] from rfl, List.append_nil]⟩, fun _ => rfl⟩
  · have hbl : labelsL b = splitL 46 b := by unfold labelsL; rw [if_neg hb]
    unfold belowL
    rw [show (b == []) = false from beq_eq_false_iff_ne.mpr hb, Bool.false_or, Bool.or_eq_true, Bool.and_eq_true, beq_iff_eq, beq_iff_eq, decide_eq_true_eq]
    constructor
    · rintro (rfl | ⟨h1, h2⟩)
      · exact ⟨[], rfl⟩
      · have e : a = a.take (a.length - b.length - 1) ++ 46 :: b := by
          conv => lhs; rw [← List.take_append_drop (a.length - b.length - 1) a, h2]
        have hne : a ≠ [] := by rintro rfl; simp at h1
        refine ⟨splitL 46 (a.take (a.length - b.length - 1)), ?_⟩
        have hal : labelsL a = splitL 46 a := by unfold labelsL; rw [if_neg hne]
        rw [hal, hbl]
        conv => lhs; rw [e]
        exact split_app _ _
    · rintro ⟨u, hu⟩
      have hne : a ≠ [] := by
        rintro rfl
        rw [hbl] at hu
        have : splitL 46 b = [] := (List.append_eq_nil_iff.1 hu.symm).2
        exact splitL_ne 46 b this
      have hal : labelsL a = splitL 46 a := by unfold labelsL; rw [if_neg hne]
      rw [hal, hbl] at hu
      have e := congrArg unL hu
      rw [unL_split] at e
      by_cases h0 : u = []
      · rw [h0, List.nil_append, unL_split] at e
        exact .inl e
      · rw [unL_app u _ h0 (splitL_ne 46 b), unL_split] at e
        right
        have hl : a.length = (unL u).length + (b.length + 1) := by rw [e]; simp
        refine ⟨by omega, ?_⟩
        rw [show a.length - b.length - 1 = (unL u).length by omega]
        conv => lhs; rw [e]
        rw [List.drop_left]
theorem bel_rev (a b : List UInt8) : belowL a b = true ↔ revL b <+: revL a := by
  rw [bel_labels]
  unfold revL
  rw [List.reverse_prefix]
  constructor
  · rintro ⟨u, hu⟩
    exact ⟨u.map mkB, by rw [hu, List.map_append]⟩
  · rintro ⟨v, hv⟩
    have h2 := congrArg (List.map fun x : ByteArray => x.data.toList) hv
    rw [List.map_append, List.map_map, List.map_map] at h2
    have : ((fun x : ByteArray => x.data.toList) ∘ mkB) = id := by funext z; exact mkB_data z
    rw [this, List.map_id, List.map_id] at h2
    exact ⟨_, h2.symm⟩
theorem cmp_self (a : ByteArray) : cmpP a a = 0 := (cmpP_zero a a).2 rfl
theorem cmpL_pre : ∀ p x : List ByteArray, p <+: x → cmpL p x ≤ 0
  | [], [], _ => by simp [cmpL]
  | [], _ :: _, _ => by simp [cmpL]
  | a :: p, [], h => by simp at h
  | a :: p, b :: x, h => by
    obtain ⟨rfl, h'⟩ := List.cons_prefix_cons.1 h
    unfold cmpL
    rw [if_pos (cmp_self a)]
    exact cmpL_pre p x h'
theorem cmpL_mid : ∀ p x y : List ByteArray, p <+: y → cmpL p x ≤ 0 → cmpL x y ≤ 0 → p <+: x
  | [], x, y, _, _, _ => List.nil_prefix
  | a :: p, x, [], h, _, _ => by simp at h
  | a :: p, [], c :: y, h, h1, _ => by simp [cmpL] at h1
  | a :: p, b :: x, c :: y, h, h1, h2 => by
    obtain ⟨rfl, h'⟩ := List.cons_prefix_cons.1 h
    unfold cmpL at h1 h2
    have hn := cmpP_neg a b
    by_cases e : cmpP a b = 0
    · rw [if_pos e] at h1
      rw [if_pos (by rw [hn, e]; rfl)] at h2
      obtain rfl := (cmpP_zero a b).1 e
      exact List.cons_prefix_cons.2 ⟨rfl, cmpL_mid p x y h' h1 h2⟩
    · rw [if_neg e] at h1
      rw [if_neg (by rw [hn]; omega)] at h2
      omega
/-- Below is not ahead. -/
theorem bel_ord {a b : List UInt8} (h : belowL a b = true) : ¬ ordL a b < 0 := by
  have h1 := cmpL_pre _ _ ((bel_rev a b).1 h)
  have h2 : ordL a b = - cmpL (revL b) (revL a) := by rw [ord_rev]; exact cmpL_neg _ _
  omega
/-- What stands between a name and one below it is below it, too. -/
theorem bel_mid {n x y : List UInt8} (h : belowL y n = true) (h1 : n = x ∨ ordL n x < 0) (h2 : x = y ∨ ordL x y < 0) : belowL x n = true := by
  rw [bel_rev] at h ⊢
  have e : ∀ a b : List UInt8, a = b ∨ ordL a b < 0 → cmpL (revL a) (revL b) ≤ 0 := by
    rintro a b (rfl | h)
    · rw [(cmpL_zero _ _).2 rfl]; exact Int.le_refl _
    · rw [← ord_rev]; omega
  exact cmpL_mid _ _ _ h (e _ _ h1) (e _ _ h2)
end Go.Proofs.YtggfgfehlcpnmaaDoor.Pure

-- PureSortN
/- The reference's SortNames: names are put to their places one by one; it is the same list. Conditions: the texts' sizes. -/
namespace Go.Proofs.YtggfgfehlcpnmaaDoor.Pure
open Go.RowKit Go.Proofs.YtggfgfehlcpnmaaDoor.P Go.Proofs.YtggfgfehlcpnmaaDoorW.PrintWords Go.Proofs.YtggfgfehlcpnmaaDoorW.PrintLast
set_option linter.unusedVariables false
set_option linter.unusedSimpArgs false
theorem sn_rd (L : List (List UInt8)) (i : Nat) (h : i < L.length) : rdOf ByteArray.empty (L.map mkB) (i : Int) = mkB L[i] := by
  unfold rdOf
  rw [Int.toNat_natCast, List.getD_eq_getElem?_getD, List.getElem?_eq_getElem (by rw [List.length_map]; exact h)]
  simp
theorem rd_arr (l : List ByteArray) (i : Nat) (h : i < l.length) : rdOf ByteArray.empty l (i : Int) = l[i] := by
  unfold rdOf
  rw [Int.toNat_natCast, List.getD_eq_getElem?_getD, List.getElem?_eq_getElem h]
  rfl
def Rising (L : List (List UInt8)) : Prop := L.Pairwise fun x y => ordL x y < 0
theorem rising_put (L : List (List UInt8)) (s : List UInt8) (i : Nat) (hi : i ≤ L.length) (h : Rising L) (h1 : ∀ j (hj : j < L.length), j < i → ordL L[j] s < 0) (h2 : ∀ hi' : i < L.length, ordL s L[i] < 0) :
    Rising (L.take i ++ [s] ++ L.drop i) ∧ ∀ x, x ∈ L.take i ++ [s] ++ L.drop i ↔ x ∈ L ∨ x = s := by
  constructor
  · have hp := List.pairwise_iff_getElem.1 h
    rw [List.append_assoc, List.singleton_append]
    refine List.pairwise_append.2 ⟨h.sublist (List.take_sublist _ _), ?_, ?_⟩
    · refine List.pairwise_cons.2 ⟨fun y hy => ?_, h.sublist (List.drop_sublist _ _)⟩
      obtain ⟨j, hj, rfl⟩ := List.mem_iff_getElem.1 hy
      rw [List.length_drop] at hj
      rw [List.getElem_drop]
      have h3 := h2 (by omega)
      by_cases e : j = 0
      · subst e; simpa using h3
      · exact ord_trans h3 (hp i (i + j) (by omega) (by omega) (by omega))
    · intro x hx y hy
      obtain ⟨j, hj, rfl⟩ := List.mem_iff_getElem.1 hx
      rw [List.length_take] at hj
      rw [List.getElem_take]
      have h3 := h1 j (by omega) (by omega)
      rcases List.mem_cons.1 hy with rfl | hy
      · exact h3
      · obtain ⟨k, hk, rfl⟩ := List.mem_iff_getElem.1 hy
        rw [List.length_drop] at hk
        rw [List.getElem_drop]
        exact hp j (i + k) (by omega) (by omega) (by omega)
  · intro x
    have e : x ∈ L ↔ x ∈ L.take i ∨ x ∈ L.drop i := by
      conv => lhs; rw [← List.take_append_drop i L]
      rw [List.mem_append]
    rw [e]
    simp only [List.mem_append, List.mem_singleton]
    constructor
    · rintro ((h | h) | h)
      · exact .inl (.inl h)
      · exact .inr h
      · exact .inl (.inr h)
    · rintro ((h | h) | h)
      · exact .inl (.inl h)
      · exact .inr h
      · exact .inl (.inr h)
theorem put_ev (L : List (List UInt8)) (s : List UInt8) (hL : L.length < 1099511627776) (hg : ∀ x ∈ L, goodL x = true) (hs : goodL s = true) (h : Rising L) : ∀ (m i : Nat), i + m = L.length → (∀ j (hj : j < L.length), j < i → ordL L[j] s < 0) →
    ∃ r, Ev (fun k => spec_l1Put.l0 k (L.map mkB) (mkB s) (i : Int)) (r.map mkB) ∧ Rising r ∧ (∀ x, x ∈ r ↔ x ∈ L ∨ x = s) ∧ r.length ≤ L.length + 1
  | 0, i, him, hb => by
    obtain ⟨p1, p2⟩ := rising_put L s i (by omega) h hb (fun hi => by omega)
    refine ⟨L.take i ++ [s] ++ L.drop i, Ev.step (f := fun _ => some ((L.take i ++ [s] ++ L.drop i).map mkB)) (fun k => ?_) (Ev.now _), p1, p2, by simp; omega⟩
    show spec_l1Put.l0 (k + 1) (L.map mkB) (mkB s) (i : Int) = _
    conv => lhs; unfold spec_l1Put.l0
    rw [List.length_map, if_neg (by omega), if_pos (by omega), if_pos (by omega), Option.bind_some, Int.toNat_natCast, if_pos (by simp; omega), Option.bind_some, if_pos (by simp; omega), Option.bind_some, Option.bind_some, if_pos (by simp; omega)]
    simp
  | m + 1, i, him, hb => by
    have hi : i < L.length := by omega
    have gi := hg _ (List.getElem_mem hi)
    have hsz := good_size gi
    have hsz2 := good_size hs
    have hc := specComp_ev (mkB L[i]) (mkB s) (by rw [mkB_size]; omega) (by rw [mkB_size]; omega) (by rw [mkB_data]; exact gi) (by rw [mkB_data]; exact hs)
    rw [mkB_data, mkB_data] at hc
    have es : ∀ k, spec_l1Put.l0 (k + 1) (L.map mkB) (mkB s) (i : Int) = (spec_l1Compare.f k (mkB L[i]) (mkB s)).bind fun t129 => (if t129 < 0 then (spec_l1Put.l0 k (L.map mkB) (mkB s) ((i + 1 : Nat) : Int)) else (if (mkB L[i]).toList = (mkB s).toList then (some (L.map mkB)) else some ((L.take i ++ [s] ++ L.drop i).map mkB))) := fun k => by
      conv => lhs; unfold spec_l1Put.l0
      rw [List.length_map, if_pos (by omega), if_pos (by omega), sn_rd L i hi, w64n (by omega)]
      congr 1
      funext t
      by_cases ht : t < 0
      · rw [if_pos ht, if_pos ht]
      · rw [if_neg ht, if_neg ht]
        by_cases he : (mkB L[i]).toList = (mkB s).toList
        · rw [if_pos he, if_pos he]
        · rw [if_neg he, if_neg he, if_pos (by omega), Option.bind_some, Int.toNat_natCast, if_pos (by simp; omega), Option.bind_some, if_pos (by simp; omega), Option.bind_some, Option.bind_some, if_pos (by simp; omega)]
          simp
    by_cases h1 : ordL L[i] s < 0
    · obtain ⟨r, g1, g2, g3, g4⟩ := put_ev L s hL hg hs h m (i + 1) (by omega) (fun j hj hji => by
        by_cases e : j = i
        · subst e; exact h1
        · exact hb j hj (by omega))
      refine ⟨r, Ev.step es (Ev.bind hc ?_), g2, g3, g4⟩
      simp only [if_pos h1]
      exact g1
    · by_cases h2 : L[i] = s
      · refine ⟨L, Ev.step es (Ev.bind hc ?_), h, fun x => ⟨fun hx => .inl hx, fun hx => ?_⟩, by omega⟩
        · simp only [if_neg h1, if_pos (show (mkB L[i]).toList = (mkB s).toList by rw [h2])]
          exact Ev.now _
        · rcases hx with hx | hx
          · exact hx
          · rw [hx, ← h2]; exact List.getElem_mem hi
      · have h3 : ordL s L[i] < 0 := by
          have a1 := ord_neg L[i] s
          have a2 := ord_range L[i] s
          have a3 := ord_zero L[i] s
          have : ordL L[i] s ≠ 0 := fun e => h2 (a3.1 e)
          omega
        obtain ⟨p1, p2⟩ := rising_put L s i (by omega) h hb (fun _ => h3)
        refine ⟨L.take i ++ [s] ++ L.drop i, Ev.step es (Ev.bind hc ?_), p1, p2, by simp; omega⟩
        have hne : ¬ (mkB L[i]).toList = (mkB s).toList := by
          rw [Lib.toList_data, Lib.toList_data, mkB_data, mkB_data]
          exact h2
        simp only [if_neg h1, if_neg hne]
        exact Ev.now _
theorem sort_loop (l : List ByteArray) (hl : l.length ≤ 1048576) (hs : ∀ x ∈ l, x.size ≤ 1048576) : ∀ (m i : Nat) (L : List (List UInt8)), i + m = l.length → L.length ≤ i → Rising L → (∀ x, x ∈ L ↔ x ∈ (l.take i).map (·.data.toList)) → (∀ x ∈ l.take i, goodL x.data.toList = true) →
    Ev (fun k => spec_SortNames.l0 k l (L.map mkB) l (l.length : Int) (i : Int)) (sortR l)
  | 0, i, L, him, hLi, hr, hm, hg => by
    rw [List.take_of_length_le (by omega)] at hm hg
    have hall : l.all (fun x => goodL x.data.toList) = true := List.all_eq_true.2 hg
    refine Ev.step (f := fun _ => some (sortR l)) (fun k => ?_) (Ev.now _)
    show spec_SortNames.l0 (k + 1) l (L.map mkB) l (l.length : Int) (i : Int) = _
    conv => lhs; unfold spec_SortNames.l0
    rw [if_neg (by omega)]
    unfold sortR
    rw [hall, Bool.and_true]
    by_cases h60 : (l.length : Int) > 60
    · rw [if_pos h60, decide_eq_false (by omega), if_neg (by simp)]
    · rw [if_neg h60, decide_eq_true (by omega), if_pos rfl]
      rw [sorted_one L (sortL (l.map (·.data.toList))) hr (sortL_sorted _) (fun x => by rw [hm x, sortL_mem])]
  | m + 1, i, L, him, hLi, hr, hm, hg => by
    have hi : i < l.length := by omega
    have hsz := hs _ (List.getElem_mem hi)
    have es : ∀ k, spec_SortNames.l0 (k + 1) l (L.map mkB) l (l.length : Int) (i : Int) = (spec_GoodName.f k l[i]).bind fun t166 => (if t166 = true then ((spec_l1Put.f k (L.map mkB) l[i]).bind fun t167 => (spec_SortNames.l0 k l t167 l (l.length : Int) ((i + 1 : Nat) : Int))) else (some (([] : List ByteArray), false))) := fun k => by
      conv => lhs; unfold spec_SortNames.l0
      rw [if_pos (by omega), if_pos (by omega), if_pos (by omega), rd_arr l i hi, w64n (by omega)]
    have htk : l.take (i + 1) = l.take i ++ [l[i]] := by rw [List.take_add_one, List.getElem?_eq_getElem hi]; rfl
    by_cases hgi : goodL l[i].data.toList = true
    · have hgL : ∀ x ∈ L, goodL x = true := by
        intro x hx
        obtain ⟨z, hz, rfl⟩ := List.mem_map.1 ((hm x).1 hx)
        exact hg z hz
      obtain ⟨r, g1, g2, g3, g4⟩ := put_ev L l[i].data.toList (by omega) hgL hgi hr L.length 0 (by omega) (fun j hj h0 => absurd h0 (Nat.not_lt_zero _))
      rw [data_mkB] at g1
      have ih := sort_loop l hl hs m (i + 1) r (by omega) (by omega) g2 (fun x => by
        rw [g3 x, hm x, htk, List.map_append, List.mem_append]
        simp) (fun x hx => by
        rw [htk] at hx
        rcases List.mem_append.1 hx with hx | hx
        · exact hg x hx
        · rw [List.mem_singleton.1 hx]; exact hgi)
      refine Ev.step es (Ev.bind (specGood_ev l[i] (by omega)) ?_)
      simp only [if_pos hgi]
      exact Ev.bind (a := r.map mkB) (Ev.congr (fun k => rfl) g1) ih
    · have e : sortR l = ([], false) := by
        unfold sortR
        have : l.all (fun x => goodL x.data.toList) = false := by
          rw [List.all_eq_false]
          exact ⟨l[i], List.getElem_mem hi, hgi⟩
        rw [this, Bool.and_false, if_neg (by simp)]
      rw [e]
      refine Ev.step es (Ev.bind (specGood_ev l[i] (by omega)) ?_)
      simp only [if_neg hgi]
      exact Ev.now _
theorem specSort_ev (l : List ByteArray) (hl : l.length ≤ 1048576) (hs : ∀ x ∈ l, x.size ≤ 1048576) : Ev (fun k => spec_SortNames.f k l) (sortR l) :=
  sort_loop l hl hs l.length 0 [] (by omega) (by simp) .nil (fun x => by simp) (fun x hx => by simp at hx)
theorem sortR_len (l : List ByteArray) : (sortR l).1.length ≤ 60 := by
  unfold sortR
  split
  · next h =>
    simp only [Bool.and_eq_true, decide_eq_true_eq] at h
    rw [List.length_map]
    unfold sortL Lib.compact Lib.compactUpTo
    rw [List.length_map]
    refine Nat.le_trans (List.length_filter_le _ _) ?_
    rw [List.length_range, List.length_mergeSort, List.length_map]
    exact h.1
  · simp
end Go.Proofs.YtggfgfehlcpnmaaDoor.Pure

-- PureCur
/- What the cursor's steps return, in plain Lean: each answers, within its bounds. Conditions: the bytes are bytes, the place is small. -/
namespace Go.Proofs.YtggfgfehlcpnmaaDoor.Pure
open Go.RowKit Go.Proofs.YtggfgfehlcpnmaaDoor.P Go.Proofs.YtggfgfehlcpnmaaDoorW.PrintWords Go.Proofs.YtggfgfehlcpnmaaDoorW.PrintLast

def Bytes (l : List Int) : Prop := ∀ x ∈ l, 0 ≤ x ∧ x ≤ 255
theorem bytes_of {l : List Int} (h : ∀ x ∈ l, (Lit.int .u8 x).wf = true) : Bytes l := fun x hx => by
  simpa [Lit.wf, IntKind.min, IntKind.max, IntKind.signed, IntKind.bits] using h x hx
theorem bytes_rd {l : List Int} (h : Bytes l) (i : Int) : 0 ≤ rd l i ∧ rd l i ≤ 255 := by
  unfold rd
  rw [List.getD_eq_getElem?_getD]
  cases e : l[i.toNat]? with
  | none => simp
  | some x => exact h x (List.mem_of_getElem? e)

theorem u64_range (x : Int) : 0 ≤ IntKind.u64.wrap x ∧ IntKind.u64.wrap x < 18446744073709551616 := by
  simp [IntKind.wrap, IntKind.bits, IntKind.signed]
  omega

theorem mask (x : Int) : 0 ≤ wrap64 (Go.bits .and .u64 (IntKind.u64.wrap x / 1099511627776) 255) ∧ wrap64 (Go.bits .and .u64 (IntKind.u64.wrap x / 1099511627776) 255) ≤ 255 := by
  have h := u64_range x
  generalize IntKind.u64.wrap x = y at h ⊢
  rw [u64_and _ _ (by omega) (by omega) (by omega) (by omega)]
  have hle : (y / 1099511627776).toNat &&& (255 : Int).toNat ≤ 255 := Nat.and_le_right
  unfold wrap64
  omega

/-- The place of the cursor. -/
def Cur (at_ : Int) (n : Nat) : Prop := 0 ≤ at_ ∧ at_ ≤ n

theorem next_some {l : List Int} (hl : Bytes l) {at_ sd : Int} {n : Nat} (hc : Cur at_ n) (hn : n < 4611686018427387904) :
    ∃ b at2 sd2, spec_l1Cur_next.f l at_ sd = some (b, at2, sd2) ∧ (0 ≤ b ∧ b ≤ 255) ∧ Cur at2 (n + 1) := by
  have hw : wrap64 (at_ + 1) = at_ + 1 := by have := hc.1; have := hc.2; unfold wrap64; omega
  have hc2 : Cur (at_ + 1) (n + 1) := ⟨by have := hc.1; omega, by have := hc.2; omega⟩
  have hb := bytes_rd hl at_
  have hb2 : wrap64 (rd l at_) = rd l at_ := by unfold wrap64; omega
  unfold spec_l1Cur_next.f
  rw [hw]
  by_cases h1 : at_ < (l.length : Int)
  · rw [if_pos h1, if_pos hc.1, if_pos (by omega)]
    exact ⟨_, _, _, rfl, by rw [hb2]; exact hb, hc2⟩
  · rw [if_neg h1]
    by_cases h2 : at_ + 1 ≤ (l.length : Int)
    · omega
    · rw [if_neg h2]
      exact ⟨_, _, _, rfl, mask _, hc2⟩

theorem pick_some {l : List Int} (hl : Bytes l) {at_ sd : Int} {n : Nat} (hc : Cur at_ n) (hn : n < 4611686018427387900) (m : Int) :
    ∃ x at2 sd2, spec_l1Cur_pick.f l at_ sd m = some (x, at2, sd2) ∧ (0 ≤ x ∧ (x = 0 ∨ x < m)) ∧ Cur at2 (n + 2) := by
  unfold spec_l1Cur_pick.f
  by_cases h1 : m ≤ 1
  · rw [if_pos h1]
    exact ⟨_, _, _, rfl, ⟨by omega, .inl rfl⟩, hc.1, by have := hc.2; omega⟩
  · rw [if_neg h1]
    obtain ⟨b, at2, sd2, e, hb, hc2⟩ := next_some hl hc (sd := sd) (by omega)
    rw [e]
    simp only [Option.bind_some]
    have hm0 : ¬ m = 0 := by omega
    by_cases h2 : m > 200
    · rw [if_pos h2]
      obtain ⟨b3, at3, sd3, e3, hb3, hc3⟩ := next_some hl hc2 (sd := sd2) (by omega)
      rw [e3]
      simp only [Option.bind_some]
      rw [if_neg hm0]
      have hw : wrap64 (wrap64 (b * 256) + b3) = b * 256 + b3 := by unfold wrap64; omega
      rw [hw, Int.tmod_eq_emod_of_nonneg (by omega)]
      exact ⟨_, _, _, rfl, ⟨Int.emod_nonneg _ hm0, .inr (Int.emod_lt_of_pos _ (by omega))⟩, hc3⟩
    · rw [if_neg h2, if_neg hm0, Int.tmod_eq_emod_of_nonneg hb.1]
      exact ⟨_, _, _, rfl, ⟨Int.emod_nonneg _ hm0, .inr (Int.emod_lt_of_pos _ (by omega))⟩, hc2.1, by have := hc2.2; omega⟩

end Go.Proofs.YtggfgfehlcpnmaaDoor.Pure

-- PureDrawN
/- The drawn names: each draw answers, with a short text. Conditions: the bytes are bytes. -/
namespace Go.Proofs.YtggfgfehlcpnmaaDoor.Pure
open Go.RowKit Go.Proofs.YtggfgfehlcpnmaaDoor.P Go.Proofs.YtggfgfehlcpnmaaDoorW.PrintWords Go.Proofs.YtggfgfehlcpnmaaDoorW.PrintLast
set_option linter.unusedVariables false
set_option linter.unusedSimpArgs false

theorem of_some {l : List Int} (hl : Bytes l) {at_ sd : Int} {n : Nat} (hc : Cur at_ n) (hn : n < 4611686018427387000) (zs : List ByteArray) (hz : 0 < zs.length) :
    ∃ x at2 sd2, spec_l1Cur_of.f l at_ sd zs = some (x, at2, sd2) ∧ x ∈ zs ∧ Cur at2 (n + 2) := by
  unfold spec_l1Cur_of.f
  obtain ⟨i, at2, sd2, e, hi, hc2⟩ := pick_some hl hc (by omega) (sd := sd) (zs.length : Int)
  rw [e]
  simp only [Option.bind_some]
  have hlt : i < (zs.length : Int) := by omega
  rw [if_pos hi.1, if_pos hlt]
  refine ⟨_, _, _, rfl, ?_, hc2⟩
  have h2 : i.toNat < zs.length := by omega
  rw [rdOf, List.getD_eq_getElem?_getD, List.getElem?_eq_getElem h2]
  exact List.getElem_mem h2
theorem size_le {zs : List ByteArray} {n : Nat} (h : zs.all (fun x => decide (x.size ≤ n)) = true) {x : ByteArray} (hx : x ∈ zs) : x.size ≤ n := by
  have := List.all_eq_true.1 h x hx
  simpa using this
theorem name_loop {l : List Int} (hl : Bytes l) : ∀ (m : Nat) (at_ sd : Int) (n : Nat) (acc : ByteArray), Cur at_ n → n + 2 * m < 4611686018427387000 → acc.size + 4 * m ≤ 1000 → m ≤ 10 →
    ∃ s at2 sd2, spec_l1Cur_name.l0 (m + 1) acc (m : Int) l at_ sd = some (s, at2, sd2) ∧ s.size ≤ acc.size + 4 * m ∧ Cur at2 (n + 2 * m)
  | 0, at_, sd, n, acc, hc, hn, ha, hm => ⟨acc, at_, sd, by unfold spec_l1Cur_name.l0; rw [if_neg (by omega)], by omega, by simpa using hc⟩
  | m + 1, at_, sd, n, acc, hc, hn, ha, hm => by
    obtain ⟨x, at2, sd2, e, hx, hc2⟩ := of_some hl hc (by omega) (sd := sd) ([(⟨#[97]⟩ : ByteArray), (⟨#[98]⟩ : ByteArray), (⟨#[119, 119, 119]⟩ : ByteArray), (⟨#[115, 117, 98]⟩ : ByteArray), (⟨#[42]⟩ : ByteArray), (⟨#[120, 49]⟩ : ByteArray), (⟨#[110, 115]⟩ : ByteArray)] : List ByteArray) (by decide)
    have hsz : x.size ≤ 3 := size_le (by decide) hx
    have h46 : (⟨#[46]⟩ : ByteArray).size = 1 := rfl
    obtain ⟨s, at3, sd3, f, hs, hc3⟩ := name_loop hl m at2 sd2 (n + 2) ((x ++ (⟨#[46]⟩ : ByteArray)) ++ acc) hc2 (by omega) (by rw [ByteArray.size_append, ByteArray.size_append, h46]; omega) (by omega)
    refine ⟨s, at3, sd3, ?_, ?_, ?_⟩
    · conv => lhs; unfold spec_l1Cur_name.l0
      rw [if_pos (by omega), e, Option.bind_some]
      dsimp only
      rw [if_pos (by omega), if_pos (by rw [ByteArray.size_append, h46]; omega), show wrap64 (((m + 1 : Nat) : Int) - 1) = (m : Int) by unfold wrap64; omega]
      exact f
    · rw [ByteArray.size_append, ByteArray.size_append, h46] at hs
      omega
    · rw [show n + 2 * (m + 1) = n + 2 + 2 * m by omega]
      exact hc3
theorem name_some {l : List Int} (hl : Bytes l) {at_ sd : Int} {n : Nat} (hc : Cur at_ n) (hn : n < 4611686018427380000) :
    ∃ s at2 sd2, Ev (fun k => spec_l1Cur_name.f k l at_ sd) (s, at2, sd2) ∧ s.size ≤ 60 ∧ Cur at2 (n + 20) := by
  have up : ∀ {a : Int} {p q : Nat}, Cur a p → p ≤ q → Cur a q := fun h k => ⟨h.1, by have := h.2; omega⟩
  obtain ⟨i, at2, sd2, e, hi, hc2⟩ := pick_some hl hc (by omega) (sd := sd) 40
  by_cases h0 : i = 0
  · obtain ⟨x, at3, sd3, e3, hx, hc3⟩ := of_some hl hc2 (by omega) (sd := sd2) ([(⟨#[]⟩ : ByteArray), (⟨#[46]⟩ : ByteArray), (⟨#[97, 46, 46, 98]⟩ : ByteArray), (⟨#[65]⟩ : ByteArray), (⟨#[97, 46]⟩ : ByteArray), (⟨#[97, 42]⟩ : ByteArray), (⟨#[97, 46, 98, 46, 99, 46, 100, 46, 101, 46, 102, 46, 103, 46, 104]⟩ : ByteArray), (⟨#[97, 46, 98, 46, 99, 46, 100, 46, 101, 46, 102, 46, 103, 46, 104, 46, 105]⟩ : ByteArray), (⟨#[97, 98, 99, 100, 101, 102, 103, 104, 105, 106, 107, 108, 109, 110, 111, 112, 113, 114, 115, 116]⟩ : ByteArray), (⟨#[97, 98, 99, 100, 101, 102, 103, 104, 105, 106, 107, 108, 109, 110, 111, 112, 113, 114, 115, 116, 117]⟩ : ByteArray)] : List ByteArray) (by decide)
    refine ⟨x, at3, sd3, Ev.congr (fun k => ?_) (Ev.now _), size_le (by decide) hx, up hc3 (by omega)⟩
    unfold spec_l1Cur_name.f
    rw [e]
    simp only [Option.bind_some]
    rw [if_pos h0, e3]
    rfl
  · by_cases h1 : i = 1
    · obtain ⟨x, at3, sd3, e3, hx, hc3⟩ := of_some hl hc2 (by omega) (sd := sd2) ([(⟨#[]⟩ : ByteArray), (⟨#[99, 111, 109]⟩ : ByteArray)] : List ByteArray) (by decide)
      refine ⟨x, at3, sd3, Ev.congr (fun k => ?_) (Ev.now _), size_le (by decide) hx, up hc3 (by omega)⟩
      unfold spec_l1Cur_name.f
      rw [e]
      simp only [Option.bind_some]
      rw [if_neg h0, if_pos h1, e3]
      rfl
    · obtain ⟨x, at3, sd3, e3, hx, hc3⟩ := of_some hl hc2 (by omega) (sd := sd2) ([(⟨#[101, 120]⟩ : ByteArray), (⟨#[99, 111, 109]⟩ : ByteArray), (⟨#[101, 120, 46, 99, 111, 109]⟩ : ByteArray), (⟨#[101, 120, 46, 99, 111, 109]⟩ : ByteArray), (⟨#[101, 120, 46, 99, 111, 109]⟩ : ByteArray)] : List ByteArray) (by decide)
      have hsz : x.size ≤ 6 := size_le (by decide) hx
      obtain ⟨j, at4, sd4, e4, hj, hc4⟩ := pick_some hl hc3 (by omega) (sd := sd3) 3
      obtain ⟨m, rfl⟩ : ∃ m : Nat, j = (m : Int) := ⟨j.toNat, by omega⟩
      obtain ⟨s, at5, sd5, e5, hs, hc5⟩ := name_loop hl m at4 sd4 _ x hc4 (by omega) (by omega) (by omega)
      refine ⟨s, at5, sd5, Ev.of (fun k => spec_l1Cur_name.mono _ _ _ _) (k := m + 1) ?_, by omega, up hc5 (by omega)⟩
      unfold spec_l1Cur_name.f
      rw [e]
      simp only [Option.bind_some]
      rw [if_neg h0, if_neg h1, e3]
      simp only [Option.bind_some]
      rw [e4]
      simp only [Option.bind_some]
      exact e5
end Go.Proofs.YtggfgfehlcpnmaaDoor.Pure

-- PureParS
/- The name behind the first label: the reference and the program return the same. Conditions: the texts' sizes. (A part of PureBelow, for seats that lack spec.l1Below.) -/
namespace Go.Proofs.YtggfgfehlcpnmaaDoor.Pure
open Go.RowKit Go.Proofs.YtggfgfehlcpnmaaDoor.P Go.Proofs.YtggfgfehlcpnmaaDoorW.PrintWords Go.Proofs.YtggfgfehlcpnmaaDoorW.PrintLast
set_option linter.unusedVariables false
set_option linter.unusedSimpArgs false

/-- What is behind the first dot. -/
def parL : List UInt8 → List UInt8
  | [] => []
  | x :: xs => if x = 46 then xs else parL xs
theorem parL_len (l : List UInt8) : (parL l).length ≤ l.length - 1 := by
  induction l with
  | nil => simp [parL]
  | cons x xs ih =>
    unfold parL
    split
    · simp
    · simp at ih ⊢; omega
theorem parent_loop (s : ByteArray) (hs : s.size < 1099511627776) : ∀ (m i : Nat), i + m = s.size →
    spec_l1Parent.l0 (m + 1) s (i : Int) = some (mkB (parL (s.data.toList.drop i)))
  | 0, i, him => by
    unfold spec_l1Parent.l0
    rw [if_neg (by omega), List.drop_of_length_le (by rw [← size_len]; omega)]
    rfl
  | m + 1, i, him => by
    have hi : i < s.data.toList.length := by rw [← size_len]; omega
    unfold spec_l1Parent.l0
    rw [if_pos (by omega), if_pos (by omega), w64n (by omega), bt_list s i hi, List.drop_eq_getElem_cons hi]
    unfold parL
    by_cases h : s.data.toList[i] = 46
    · rw [if_pos (by rw [h]; rfl), if_pos h, if_pos (by omega), if_pos (by omega), Int.toNat_natCast, ext_end]
    · rw [if_neg (by intro e; apply h; apply UInt8.toNat_inj.1; simpa using Int.ofNat.inj e), if_neg h, parent_loop s hs m (i + 1) (by omega)]
theorem specParent_ev (s : ByteArray) (hs : s.size < 1099511627776) : Ev (fun k => spec_l1Parent.f k s) (mkB (parL s.data.toList)) := by
  refine Ev.of (fun k => spec_l1Parent.mono _ _) (k := s.size + 1) ?_
  unfold spec_l1Parent.f
  have := parent_loop s hs s.size 0 (by omega)
  simpa using this
end Go.Proofs.YtggfgfehlcpnmaaDoor.Pure

-- PureDrawC
/- The drawn names of the order's law: each draw answers, with short texts. Conditions: the bytes are bytes. -/
namespace Go.Proofs.YtggfgfehlcpnmaaDoor.Pure
open Go.RowKit Go.Proofs.YtggfgfehlcpnmaaDoor.P Go.Proofs.YtggfgfehlcpnmaaDoorW.PrintWords Go.Proofs.YtggfgfehlcpnmaaDoorW.PrintLast
set_option linter.unusedVariables false
set_option linter.unusedSimpArgs false
theorem below_draw {l : List Int} (hl : Bytes l) : ∃ a b, Ev (fun k => spec_DrawIsBelow.f k l) (a, b) ∧ a.size ≤ 60 ∧ b.size ≤ 60 := by
  obtain ⟨a, at2, sd2, e, ha, hc2⟩ := name_some hl (at_ := 0) (sd := 0) (n := 0) ⟨by omega, by omega⟩ (by omega)
  obtain ⟨i, at3, sd3, e3, hi, hc3⟩ := pick_some hl hc2 (by omega) (sd := sd2) 3
  have h3 : spec_l1Cur_one.f l at2 sd2 3 = some ((i == 0), at3, sd3) := by
    unfold spec_l1Cur_one.f
    rw [e3]
    rfl
  obtain ⟨b, at4, sd4, e4, hb, hc4⟩ := name_some hl hc3 (by omega) (sd := sd3)
  by_cases h0 : (i == 0) = true
  · refine ⟨a, mkB (parL a.data.toList), Ev.congr (fun k => rfl) (Ev.bind e ?_), ha, by rw [mkB_size]; have := parL_len a.data.toList; rw [← size_len] at this; omega⟩
    simp only [h3, Option.bind_some, if_pos h0]
    exact Ev.bind (specParent_ev a (by omega)) (Ev.now _)
  · refine ⟨a, b, Ev.congr (fun k => rfl) (Ev.bind e ?_), ha, hb⟩
    simp only [h3, Option.bind_some, if_neg h0]
    exact Ev.bind e4 (Ev.now _)
theorem cur_up {a : Int} {p q : Nat} (h : Cur a p) (k : p ≤ q) : Cur a q := ⟨h.1, by have := h.2; omega⟩
theorem one_some {l : List Int} (hl : Bytes l) {at_ sd : Int} {n : Nat} (hc : Cur at_ n) (hn : n < 4611686018427387900) (m : Int) :
    ∃ x at2 sd2, spec_l1Cur_one.f l at_ sd m = some (x, at2, sd2) ∧ Cur at2 (n + 2) := by
  obtain ⟨i, at2, sd2, e, hi, hc2⟩ := pick_some hl hc hn (sd := sd) m
  exact ⟨_, at2, sd2, by unfold spec_l1Cur_one.f; rw [e]; rfl, hc2⟩
theorem list_loop {l : List Int} (hl : Bytes l) : ∀ (m : Nat) (at_ sd : Int) (n : Nat) (acc : List ByteArray), Cur at_ n → n + 30 * m < 4611686018427380000 → acc.length + m ≤ 100 → (∀ x ∈ acc, x.size ≤ 60) →
    ∃ r at2 sd2, Ev (fun k => spec_l1Cur_nameList.l0 k acc (m : Int) l at_ sd) (r, at2, sd2) ∧ r.length = acc.length + m ∧ (∀ x ∈ r, x.size ≤ 60)
  | 0, at_, sd, n, acc, hc, hn, ha, hx => by
    refine ⟨acc, at_, sd, Ev.step (f := fun _ => some (acc, at_, sd)) (fun k => ?_) (Ev.now _), by omega, hx⟩
    show spec_l1Cur_nameList.l0 (k + 1) acc ((0 : Nat) : Int) l at_ sd = _
    conv => lhs; unfold spec_l1Cur_nameList.l0
    rw [if_neg (by omega)]
  | m + 1, at_, sd, n, acc, hc, hn, ha, hx => by
    obtain ⟨s, at2, sd2, e, hs, hc2⟩ := name_some hl hc (by omega) (sd := sd)
    have hwm : wrap64 (((m + 1 : Nat) : Int) - 1) = (m : Int) := by unfold wrap64; omega
    have e0 : ∀ k, spec_l1Cur_nameList.l0 (k + 1) acc ((m + 1 : Nat) : Int) l at_ sd = (spec_l1Cur_name.f k l at_ sd).bind fun bt336 => (if acc.length < 8796093022208 then (spec_l1Cur_nameList.l0 k (acc ++ [bt336.1]) (m : Int) l bt336.2.1 bt336.2.2) else (none)) := fun k => by
      conv => lhs; unfold spec_l1Cur_nameList.l0
      rw [if_pos (by omega), hwm]
    obtain ⟨r, at3, sd3, f, h1, h2⟩ := list_loop hl m at2 sd2 (n + 30) (acc ++ [s]) (cur_up hc2 (by omega)) (by omega) (by simp; omega) (by
      intro z hz
      rcases List.mem_append.1 hz with hz | hz
      · exact hx z hz
      · rw [List.mem_singleton.1 hz]; exact hs)
    refine ⟨r, at3, sd3, Ev.step e0 (Ev.bind e ?_), by simp at h1; omega, h2⟩
    simp only [if_pos (show acc.length < 8796093022208 by omega)]
    exact f
theorem sort_draw {l : List Int} (hl : Bytes l) : ∃ r, Ev (fun k => spec_DrawSortNames.f k l) r ∧ r.length ≤ 100 ∧ (∀ x ∈ r, x.size ≤ 60) := by
  obtain ⟨i, at2, sd2, e, hi, hc2⟩ := pick_some hl (at_ := 0) (n := 0) ⟨by omega, by omega⟩ (by omega) (sd := 0) 9
  obtain ⟨o, at3, sd3, e3, hc3⟩ := one_some hl hc2 (by omega) (sd := sd2) 30
  have key : ∃ r at4 sd4, Ev (fun k => spec_l1Cur_nameList.f k l 0 0) (r, at4, sd4) ∧ r.length ≤ 100 ∧ (∀ x ∈ r, x.size ≤ 60) := by
    by_cases ho : o = true
    · obtain ⟨j, at4, sd4, e4, hj, hc4⟩ := pick_some hl hc3 (by omega) (sd := sd3) 2
      obtain ⟨m, hm⟩ : ∃ m : Nat, wrap64 (60 + j) = (m : Int) := ⟨(wrap64 (60 + j)).toNat, by unfold wrap64; omega⟩
      have hm2 : m ≤ 62 := by unfold wrap64 at hm; omega
      obtain ⟨r, at5, sd5, f, h1, h2⟩ := list_loop hl m at4 sd4 10 [] (cur_up hc4 (by omega)) (by omega) (by simp; omega) (fun x hx => by cases hx)
      refine ⟨r, at5, sd5, Ev.congr (f := fun k => spec_l1Cur_nameList.j0 k [] (m : Int) l at4 sd4) (fun k => ?_) (Ev.step (fun k => rfl) f), by simp at h1; omega, h2⟩
      unfold spec_l1Cur_nameList.f
      rw [e]
      simp only [Option.bind_some]
      rw [e3]
      simp only [Option.bind_some]
      rw [if_pos ho, e4]
      simp only [Option.bind_some]
      rw [hm]
    · obtain ⟨m, rfl⟩ : ∃ m : Nat, i = (m : Int) := ⟨i.toNat, by omega⟩
      obtain ⟨r, at5, sd5, f, h1, h2⟩ := list_loop hl m at3 sd3 10 [] (cur_up hc3 (by omega)) (by omega) (by simp; omega) (fun x hx => by cases hx)
      refine ⟨r, at5, sd5, Ev.congr (f := fun k => spec_l1Cur_nameList.j0 k [] (m : Int) l at3 sd3) (fun k => ?_) (Ev.step (fun k => rfl) f), by simp at h1; omega, h2⟩
      unfold spec_l1Cur_nameList.f
      rw [e]
      simp only [Option.bind_some]
      rw [e3]
      simp only [Option.bind_some]
      rw [if_neg ho]
  obtain ⟨r, at4, sd4, k1, k2, k3⟩ := key
  exact ⟨r, Ev.congr (fun k => rfl) (Ev.bind k1 (Ev.now _)), k2, k3⟩
end Go.Proofs.YtggfgfehlcpnmaaDoor.Pure
