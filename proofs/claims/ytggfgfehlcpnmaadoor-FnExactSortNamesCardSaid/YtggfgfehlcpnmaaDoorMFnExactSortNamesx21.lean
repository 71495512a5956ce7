/- FnExactSortNames: part 22 of 26 of my texts for this claim, joined; the theorem stands in the last. Conditions: none beyond the statement's. -/
import Derived.Test.YtggfgfehlcpnmaaDoorMFnExactSortNamesx20
import Derived.Sort.Walk0
import Derived.Sort.Statements
import Derived.Lib.SlicesCompact
import Derived.Test.YtggfgfehlcpnmaaDoorMFnExactSortNamesx4
import Derived.Test.YtggfgfehlcpnmaaDoorMFnExactSortNamesx19
-- PureOrd
/- The order of names is a total one: in plain words. Conditions: none. -/
namespace Go.Proofs.YtggfgfehlcpnmaaDoor.Pure
open Go.RowKit Go.Proofs.YtggfgfehlcpnmaaDoor.P Go.Proofs.YtggfgfehlcpnmaaDoorW.PrintWords Go.Proofs.YtggfgfehlcpnmaaDoorW.PrintLast
set_option linter.unusedVariables false
set_option linter.unusedSimpArgs false

theorem cmpP_lt (a b : ByteArray) : cmpP a b = if a.data.toList < b.data.toList then -1 else if b.data.toList < a.data.toList then 1 else 0 := by
  unfold cmpP
  rw [Go.Proofs.bytesLess_eq, Go.Proofs.bytesLess_eq, Lib.toList_data, Lib.toList_data]
  simp only [decide_eq_true_eq]
theorem lst_tri (a b : List UInt8) : a < b ∨ a = b ∨ b < a := by
  by_cases h1 : a < b
  · exact .inl h1
  · by_cases h2 : b < a
    · exact .inr (.inr h2)
    · exact .inr (.inl (List.le_antisymm h2 h1))
theorem cmpP_zero (a b : ByteArray) : cmpP a b = 0 ↔ a = b := by
  rw [cmpP_lt]
  rcases lst_tri a.data.toList b.data.toList with h | h | h
  · rw [if_pos h]
    refine ⟨fun h0 => by omega, fun e => ?_⟩
    rw [e] at h
    exact absurd h (List.lt_irrefl _)
  · have hn : ¬ a.data.toList < b.data.toList := by rw [h]; exact List.lt_irrefl _
    have hn2 : ¬ b.data.toList < a.data.toList := by rw [h]; exact List.lt_irrefl _
    rw [if_neg hn, if_neg hn2]
    exact ⟨fun _ => ext_data h, fun _ => rfl⟩
  · have hn : ¬ a.data.toList < b.data.toList := fun h' => absurd (List.lt_trans h h') (List.lt_irrefl _)
    rw [if_neg hn, if_pos h]
    refine ⟨fun h0 => by omega, fun e => ?_⟩
    rw [e] at h
    exact absurd h (List.lt_irrefl _)
theorem cmpP_neg (a b : ByteArray) : cmpP b a = - cmpP a b := by
  rw [cmpP_lt, cmpP_lt]
  by_cases h : a.data.toList < b.data.toList
  · have hn : ¬ b.data.toList < a.data.toList := fun h' => absurd (List.lt_trans h h') (List.lt_irrefl _)
    rw [if_neg hn, if_pos h, if_pos h]; rfl
  · by_cases h' : b.data.toList < a.data.toList
    · rw [if_pos h', if_neg h, if_pos h']
    · rw [if_neg h', if_neg h, if_neg h, if_neg h']; rfl
theorem cmpP_range (a b : ByteArray) : cmpP a b = -1 ∨ cmpP a b = 0 ∨ cmpP a b = 1 := by
  rw [cmpP_lt]
  split
  · exact .inl rfl
  · split
    · exact .inr (.inr rfl)
    · exact .inr (.inl rfl)
theorem cmpP_less (a b : ByteArray) : cmpP a b < 0 ↔ a.data.toList < b.data.toList := by
  rw [cmpP_lt]
  by_cases h : a.data.toList < b.data.toList
  · rw [if_pos h]; exact ⟨fun _ => h, fun _ => by decide⟩
  · rw [if_neg h]
    refine ⟨fun h' => ?_, fun h' => absurd h' h⟩
    split at h' <;> omega
theorem cmpP_trans {a b c : ByteArray} (h : cmpP a b < 0) (h' : cmpP b c < 0) : cmpP a c < 0 := by
  rw [cmpP_less] at *
  exact List.lt_trans h h'
theorem cmpL_zero : ∀ x y : List ByteArray, cmpL x y = 0 ↔ x = y
  | [], [] => ⟨fun _ => rfl, fun _ => rfl⟩
  | [], _ :: _ => ⟨fun h => by simp [cmpL] at h, fun h => by cases h⟩
  | _ :: _, [] => ⟨fun h => by simp [cmpL] at h, fun h => by cases h⟩
  | a :: x, b :: y => by
    unfold cmpL
    by_cases h : cmpP a b = 0
    · rw [if_pos h, cmpL_zero x y, (cmpP_zero a b).1 h]
      exact ⟨fun e => by rw [e], fun e => by injection e⟩
    · rw [if_neg h]
      refine ⟨fun e => absurd e h, fun e => ?_⟩
      injection e with e1 e2
      exact absurd ((cmpP_zero a b).2 e1) h
theorem cmpL_neg : ∀ x y : List ByteArray, cmpL y x = - cmpL x y
  | [], [] => rfl
  | [], _ :: _ => rfl
  | _ :: _, [] => rfl
  | a :: x, b :: y => by
    unfold cmpL
    have hn := cmpP_neg a b
    by_cases h : cmpP a b = 0
    · rw [if_pos h, if_pos (by rw [hn, h]; rfl), cmpL_neg x y]
    · rw [if_neg h, if_neg (by rw [hn]; omega), hn]
theorem cmpL_range : ∀ x y : List ByteArray, cmpL x y = -1 ∨ cmpL x y = 0 ∨ cmpL x y = 1
  | [], [] => .inr (.inl rfl)
  | [], _ :: _ => .inl rfl
  | _ :: _, [] => .inr (.inr rfl)
  | a :: x, b :: y => by
    unfold cmpL
    split
    · exact cmpL_range x y
    · exact cmpP_range a b
theorem cmpL_trans : ∀ x y z : List ByteArray, cmpL x y < 0 → cmpL y z < 0 → cmpL x z < 0
  | [], [], z, h, h' => by simp [cmpL] at h
  | [], _ :: _, [], h, h' => by simp [cmpL] at h'
  | [], _ :: _, _ :: _, h, h' => by simp [cmpL]
  | _ :: _, [], z, h, h' => by simp [cmpL] at h
  | _ :: _, _ :: _, [], h, h' => by simp [cmpL] at h'
  | a :: x, b :: y, c :: z, h, h' => by
    unfold cmpL at h h' ⊢
    by_cases h1 : cmpP a b = 0
    · rw [if_pos h1] at h
      obtain rfl := (cmpP_zero a b).1 h1
      by_cases h2 : cmpP a c = 0
      · rw [if_pos h2] at h' ⊢
        exact cmpL_trans x y z h h'
      · rw [if_neg h2] at h' ⊢
        exact h'
    · rw [if_neg h1] at h
      by_cases h2 : cmpP b c = 0
      · obtain rfl := (cmpP_zero b c).1 h2
        rw [if_neg h1]
        exact h
      · rw [if_neg h2] at h'
        have h3 := cmpP_trans h h'
        rw [if_neg (by omega)]
        exact h3
/-- The text of parts with dots between. -/
def unL : List (List UInt8) → List UInt8
  | [] => []
  | [p] => p
  | p :: q :: r => p ++ 46 :: unL (q :: r)
theorem unL_split : ∀ s : List UInt8, unL (splitL 46 s) = s
  | [] => rfl
  | x :: xs => by
    have ih := unL_split xs
    obtain ⟨p, ps, hp⟩ := List.exists_cons_of_ne_nil (splitL_ne 46 xs)
    unfold splitL
    rw [hp] at ih ⊢
    by_cases h : x = 46
    · rw [if_pos h]
      show [] ++ 46 :: unL (p :: ps) = _
      rw [ih, h]
      rfl
    · rw [if_neg h]
      cases ps with
      | nil => show x :: p = _; rw [show p = xs from ih]
      | cons q r =>
        show (x :: p) ++ 46 :: unL (q :: r) = _
        have ih2 : p ++ 46 :: unL (q :: r) = xs := ih
        rw [List.cons_append, ih2]
theorem labels_inj {a b : List UInt8} (h : labelsL a = labelsL b) : a = b := by
  unfold labelsL at h
  by_cases ha : a = []
  · rw [if_pos ha] at h
    by_cases hb : b = []
    · rw [ha, hb]
    · rw [if_neg hb] at h
      exact absurd h.symm (splitL_ne 46 b)
  · rw [if_neg ha] at h
    by_cases hb : b = []
    · rw [if_pos hb] at h
      exact absurd h (splitL_ne 46 a)
    · rw [if_neg hb] at h
      rw [← unL_split a, ← unL_split b, h]
theorem ord_zero (a b : List UInt8) : ordL a b = 0 ↔ a = b := by
  unfold ordL
  rw [cmpL_zero]
  refine ⟨fun h => ?_, fun h => by rw [h]⟩
  have h1 := List.reverse_inj.1 h
  refine labels_inj ?_
  have h2 := congrArg (List.map fun x : ByteArray => x.data.toList) h1
  rw [List.map_map, List.map_map] at h2
  have : ((fun x : ByteArray => x.data.toList) ∘ mkB) = id := by funext z; exact mkB_data z
  rwa [this, List.map_id, List.map_id] at h2
theorem ord_neg (a b : List UInt8) : ordL b a = - ordL a b := cmpL_neg _ _
theorem ord_range (a b : List UInt8) : ordL a b = -1 ∨ ordL a b = 0 ∨ ordL a b = 1 := cmpL_range _ _
theorem ord_trans {a b c : List UInt8} (h : ordL a b < 0) (h' : ordL b c < 0) : ordL a c < 0 := cmpL_trans _ _ _ h h'
/-- One name ahead of another one, or the same. -/
def leN (x y : List UInt8) : Bool := !decide (ordL y x < 0)
theorem leN_iff (x y : List UInt8) : leN x y = true ↔ x = y ∨ ordL x y < 0 := by
  unfold leN
  have h1 := ord_neg x y
  have h2 := ord_range x y
  have h3 := ord_zero x y
  simp only [Bool.not_eq_true', decide_eq_false_iff_not]
  constructor
  · intro h
    by_cases h0 : ordL x y = 0
    · exact .inl (h3.1 h0)
    · exact .inr (by omega)
  · rintro (h | h)
    · have := h3.2 h; omega
    · omega
theorem leN_trans (x y z : List UInt8) (h : leN x y = true) (h' : leN y z = true) : leN x z = true := by
  rw [leN_iff] at *
  rcases h with rfl | h
  · exact h'
  · rcases h' with rfl | h'
    · exact .inr h
    · exact .inr (ord_trans h h')
theorem leN_total (x y : List UInt8) : (leN x y || leN y x) = true := by
  rw [Bool.or_eq_true, leN_iff, leN_iff]
  have h1 := ord_neg x y
  have h2 := ord_range x y
  have h3 := ord_zero x y
  by_cases h0 : ordL x y = 0
  · exact .inl (.inl (h3.1 h0))
  · by_cases h : ordL x y < 0
    · exact .inl (.inr h)
    · exact .inr (.inr (by omega))
/-- Names in order, each once. -/
def sortL (l : List (List UInt8)) : List (List UInt8) := Lib.compact (l.mergeSort leN)
theorem compact_mem (l : List (List UInt8)) (x : List UInt8) : x ∈ Lib.compact l ↔ x ∈ l := by
  unfold Lib.compact Lib.compactUpTo
  simp only [List.mem_map, List.mem_filter, List.mem_range]
  constructor
  · rintro ⟨j, ⟨hj, _⟩, rfl⟩
    have : l.toArray[j]! = l[j] := by rw [getElem!_pos _ _ (by simpa using hj)]; simp
    rw [this]
    exact List.getElem_mem hj
  · intro hx
    have hex : ∃ j, ∃ h : j < l.length, l[j] = x := List.mem_iff_getElem.1 hx
    have key : ∀ n, (∃ j, j ≤ n ∧ ∃ h : j < l.length, l[j] = x) → ∃ j, ∃ h : j < l.length, l[j] = x ∧ ∀ i, (hi : i < j) → l[i]'(by omega) ≠ x := by
      intro n
      induction n with
      | zero =>
        rintro ⟨j, hj, h, e⟩
        obtain rfl : j = 0 := by omega
        exact ⟨0, h, e, fun i hi => absurd hi (Nat.not_lt_zero _)⟩
      | succ n ih =>
        rintro ⟨j, hj, h, e⟩
        by_cases hlow : ∃ j, j ≤ n ∧ ∃ h : j < l.length, l[j] = x
        · exact ih hlow
        · exact ⟨j, h, e, fun i hi ei => hlow ⟨i, by omega, by omega, ei⟩⟩
    obtain ⟨j0, h0, e0⟩ := hex
    obtain ⟨j, hj, e, hmin⟩ := key j0 ⟨j0, Nat.le_refl _, h0, e0⟩
    have g : ∀ i (hi : i < l.length), l.toArray[i]! = l[i] := fun i hi => by rw [getElem!_pos _ _ (by simpa using hi)]; simp
    refine ⟨j, ⟨hj, ?_⟩, by rw [g j hj]; exact e⟩
    unfold Lib.keeps
    rw [decide_eq_true_eq]
    by_cases h1 : j = 0
    · exact .inl h1
    · right
      rw [g j hj, g (j - 1) (by omega), e]
      exact fun e2 => hmin (j - 1) (by omega) e2.symm
theorem compact_sorted (l : List (List UInt8)) (h : l.Pairwise fun x y => leN x y = true) : (Lib.compact l).Pairwise fun x y => ordL x y < 0 := by
  have g : ∀ i (hi : i < l.length), l.toArray[i]! = l[i] := fun i hi => by rw [getElem!_pos _ _ (by simpa using hi)]; simp
  unfold Lib.compact Lib.compactUpTo
  rw [List.pairwise_map]
  have h1 : (List.range l.length).Pairwise (· < ·) := List.pairwise_lt_range
  have h2 : ((List.range l.length).filter (Lib.keeps l.toArray)).Pairwise (· < ·) := h1.sublist List.filter_sublist
  refine List.Pairwise.imp_of_mem ?_ h2
  intro i j hi hj hij
  simp only [List.mem_filter, List.mem_range] at hi hj
  have hk := hj.2
  unfold Lib.keeps at hk
  rw [decide_eq_true_eq] at hk
  rcases hk with hk | hk
  · omega
  rw [g i hi.1, g j hj.1]
  rw [g j hj.1, g (j - 1) (by omega)] at hk
  have hp := List.pairwise_iff_getElem.1 h
  have a1 : leN l[j - 1] l[j] = true := hp (j - 1) j (by omega) hj.1 (by omega)
  have a2 : ordL l[j - 1] l[j] < 0 := by
    rcases (leN_iff _ _).1 a1 with e | e
    · exact absurd e.symm hk
    · exact e
  by_cases e : i = j - 1
  · subst e; exact a2
  · have a3 : leN l[i] l[j - 1] = true := hp i (j - 1) hi.1 (by omega) (by omega)
    rcases (leN_iff _ _).1 a3 with e2 | e2
    · rw [e2]; exact a2
    · exact ord_trans e2 a2
theorem sortL_mem (l : List (List UInt8)) (x : List UInt8) : x ∈ sortL l ↔ x ∈ l := by
  unfold sortL
  rw [compact_mem]
  exact (List.mergeSort_perm l leN).mem_iff
theorem sortL_sorted (l : List (List UInt8)) : (sortL l).Pairwise fun x y => ordL x y < 0 :=
  compact_sorted _ (List.pairwise_mergeSort leN_trans leN_total l)
/-- There is one such list. -/
theorem sorted_one : ∀ (a b : List (List UInt8)), a.Pairwise (fun x y => ordL x y < 0) → b.Pairwise (fun x y => ordL x y < 0) → (∀ x, x ∈ a ↔ x ∈ b) → a = b
  | [], [], _, _, _ => rfl
  | [], y :: b, _, _, h => absurd ((h y).2 List.mem_cons_self) (by simp)
  | x :: a, [], _, _, h => absurd ((h x).1 List.mem_cons_self) (by simp)
  | x :: a, y :: b, ha, hb, h => by
    have ha' := List.pairwise_cons.1 ha
    have hb' := List.pairwise_cons.1 hb
    have irr : ∀ z, ¬ ordL z z < 0 := fun z => by rw [(ord_zero z z).2 rfl]; omega
    have exy : x = y := by
      rcases List.mem_cons.1 ((h x).1 List.mem_cons_self) with e | e
      · exact e
      · rcases List.mem_cons.1 ((h y).2 List.mem_cons_self) with e2 | e2
        · exact e2.symm
        · exact absurd (ord_trans (ha'.1 y e2) (hb'.1 x e)) (irr x)
    subst exy
    rw [sorted_one a b ha'.2 hb'.2 fun z => ?_]
    constructor
    · intro hz
      rcases List.mem_cons.1 ((h z).1 (List.mem_cons_of_mem _ hz)) with e | e
      · rw [e] at hz
        exact absurd (ha'.1 x hz) (irr x)
      · exact e
    · intro hz
      rcases List.mem_cons.1 ((h z).2 (List.mem_cons_of_mem _ hz)) with e | e
      · rw [e] at hz
        exact absurd (hb'.1 x hz) (irr x)
      · exact e
/-- What SortNames returns. -/
def sortR (l : List ByteArray) : List ByteArray × Bool :=
  if decide (l.length ≤ 60) && l.all (fun x => goodL x.data.toList) then ((sortL (l.map (·.data.toList))).map mkB, true) else ([], false)
end Go.Proofs.YtggfgfehlcpnmaaDoor.Pure

-- F21
-- By my own call of the kit's print (wip/tools/pp.py).
namespace Go.Proofs.YtggfgfehlcpnmaaDoor.P
open Go.RowKit Go.Proofs.YtggfgfehlcpnmaaDoorW.PrintWords Go.Proofs.YtggfgfehlcpnmaaDoorW.PrintLast Go.Proofs.YtggfgfehlcpnmaaDoorW.PrintMore
attribute [local go_sem] max2_int min2_int max_two min_two max_three min_three max_four min_four
set_option linter.unusedVariables false
set_option linter.unusedSimpArgs false

/-! ### impl_SortNames_1: function 21 -/
def impl_SortNames_1.f (a0 : ByteArray) : Option (Bool) := (impl_GoodName.f a0).bind fun t388 => (some (!t388))
set_option maxHeartbeats 8000000 in
set_option maxRecDepth 100000 in
theorem impl_SortNames_1.calls (a0 : ByteArray) (r : Bool) (w : World) (h : impl_SortNames_1.f a0 = some r) :
    Calls Tryd.prog 21 #[.string a0] w fun e w' => e = .returned (.bool r) ∧ Below w.heap.size w w' := by
  have HB := Aside0.mk (Below.refl w.heap.size w)
  have H : ((impl_GoodName.f a0).bind fun t388 => (some (!t388))) = some r := h
  clear h
  replace H := Option.bind_eq_some_iff.mp H
  obtain ⟨t388, A20, H⟩ := H
  replace H : (some (!t388)) = some r := H
  have A2 := Aside0.mk A20
  clear A20
  obtain rfl := Option.some.inj H
  go_enter Tryd.func21, Tryd.ntmps21
  go_wp2_with (first | ((with_reducible refine gate_callee (f := 22) rfl ?_); refine goesL_ (some 4) rfl rfl Tryd.func22 (by kernel_rfl) rfl #[.string a0] rfl (by (try simp only [List.map_toArray, List.map_cons, List.map_nil]); first | done | rfl | (simp only [List.length_drop, List.length_take]; rfl)) ?_; (with_reducible refine (impl_GoodName.calls a0 t388 _ A2.out).mono ?_); rintro e w3 ⟨rfl, hb⟩; refine ⟨_, rfl, ?_⟩; have n0_ := Aside0.mk (below_step (by repeat (first | (with_reducible first | exact HB.out | apply below_alloc | apply pw_below_drewN | apply below_drew1) | exact HB.out)) hb); clear HB; have HB := n0_; clear n0_; (try clear hb); (try clear hb2); (try clear hk); (try clear hi)))
  go_ret
  exact ⟨by first | rfl | (simp [errW_none, errW_some] <;> rfl) | (simp [*, errW_none, errW_some] <;> rfl), by repeat (first | (with_reducible first | exact HB.out | apply below_alloc | apply pw_below_drewN | apply below_drew1) | exact HB.out)⟩

end Go.Proofs.YtggfgfehlcpnmaaDoor.P
