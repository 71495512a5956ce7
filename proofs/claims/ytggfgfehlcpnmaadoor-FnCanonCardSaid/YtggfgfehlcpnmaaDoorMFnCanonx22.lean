/- FnCanon: part 23 of 26 of my texts for this claim, joined; the theorem stands in the last. Conditions: none beyond the statement's. -/
import Derived.Test.YtggfgfehlcpnmaaDoorMFnCanonx21
import Derived.Sort.Walk0
import Derived.Sort.Statements
import Derived.Lib.SlicesCompact
import Derived.Test.YtggfgfehlcpnmaaDoorMFnCanonx3
import Derived.Test.YtggfgfehlcpnmaaDoorMFnCanonx10
import Derived.Test.YtggfgfehlcpnmaaDoorMFnCanonx19
import Derived.Test.YtggfgfehlcpnmaaDoorMFnCanonx20
import Derived.Sort.OwnSorted
-- PureOrd
/- The order of names is a total one: in plain words. Conditions: none. -/
namespace Go.Proofs.YtggfgfehlcpnmaaDoor.Pure
open Go.RowKit Go.Proofs.YtggfgfehlcpnmaaDoor.P Go.Proofs.YtggfgfehlcpnmaaDoorW.PrintWords Go.Proofs.YtggfgfehlcpnmaaDoorW.PrintLast
set_option linter.unusedVariables false
set_option linter.unusedSimpArgs false

theorem cmpP_lt (a b : ByteArray) : cmpP a b = if a.data.toList < b.data.toList then -1 else if b.data.toList < a.data.toList then 1 else 0 := by
  unfold cmpP
  rw [Go.Proofs.bytesLess_eq, Go.Proofs.bytesLess_eq, Lib.toList_data, Lib.toList_data]
  simp only [decide_eq_true_eq]
theorem lst_tri (a b : List UInt8) : a < b ∨ a = b ∨ b < a := by
  by_cases h1 : a < b
  · exact .inl h1
  · by_cases h2 : b < a
    · exact .inr (.inr h2)
    · exact .inr (.inl (List.le_antisymm h2 h1))
theorem cmpP_zero (a b : ByteArray) : cmpP a b = 0 ↔ a = b := by
  rw [cmpP_lt]
  rcases lst_tri a.data.toList b.data.toList with h | h | h
  · rw [if_pos h]
    refine ⟨fun h0 => by omega, fun e => ?_⟩
    rw [e] at h
    exact absurd h (List.lt_irrefl _)
  · have hn : ¬ a.data.toList < b.data.toList := by rw [h]; exact List.lt_irrefl _
    have hn2 : ¬ b.data.toList < a.data.toList := by rw [h]; exact List.lt_irrefl _
    rw [if_neg hn, if_neg hn2]
    exact ⟨fun _ => ext_data h, fun _ => rfl⟩
  · have hn : ¬ a.data.toList < b.data.toList := fun h' => absurd (List.lt_trans h h') (List.lt_irrefl _)
    rw [if_neg hn, if_pos h]
    refine ⟨fun h0 => by omega, fun e => ?_⟩
    rw [e] at h
    exact absurd h (List.lt_irrefl _)
theorem cmpP_neg (a b : ByteArray) : cmpP b a = - cmpP a b := by
  rw [cmpP_lt, cmpP_lt]
  by_cases h : a.data.toList < b.data.toList
  · have hn : ¬ b.data.toList < a.data.toList := fun h' => absurd (List.lt_trans h h') (List.lt_irrefl _)
    rw [if_neg hn, if_pos h, if_pos h]; rfl
  · by_cases h' : b.data.toList < a.data.toList
    · rw [if_pos h', if_neg h, if_pos h']
    · rw [if_neg h', if_neg h, if_neg h, if_neg h']; rfl
theorem cmpP_range (a b : ByteArray) : cmpP a b = -1 ∨ cmpP a b = 0 ∨ cmpP a b = 1 := by
  rw [cmpP_lt]
  split
  · exact .inl rfl
  · split
    · exact .inr (.inr rfl)
    · exact .inr (.inl rfl)
theorem cmpP_less (a b : ByteArray) : cmpP a b < 0 ↔ a.data.toList < b.data.toList := by
  rw [cmpP_lt]
  by_cases h : a.data.toList < b.data.toList
  · rw [if_pos h]; exact ⟨fun _ => h, fun _ => by decide⟩
  · rw [if_neg h]
    refine ⟨fun h' => ?_, fun h' => absurd h' h⟩
    split at h' <;> omega
theorem cmpP_trans {a b c : ByteArray} (h : cmpP a b < 0) (h' : cmpP b c < 0) : cmpP a c < 0 := by
  rw [cmpP_less] at *
  exact List.lt_trans h h'
theorem cmpL_zero : ∀ x y : List ByteArray, cmpL x y = 0 ↔ x = y
  | [], [] => ⟨fun _ => rfl, fun _ => rfl⟩
  | [], _ :: _ => ⟨fun h => by simp [cmpL] at h, fun h => by cases h⟩
  | _ :: _, [] => ⟨fun h => by simp [cmpL] at h, fun h => by cases h⟩
  | a :: x, b :: y => by
    unfold cmpL
    by_cases h : cmpP a b = 0
    · rw [if_pos h, cmpL_zero x y, (cmpP_zero a b).1 h]
      exact ⟨fun e => by rw [e], fun e => by injection e⟩
    · rw [if_neg h]
      refine ⟨fun e => absurd e h, fun e => ?_⟩
      injection e with e1 e2
      exact absurd ((cmpP_zero a b).2 e1) h
theorem cmpL_neg : ∀ x y : List ByteArray, cmpL y x = - cmpL x y
  | [], [] => rfl
  | [], _ :: _ => rfl
  | _ :: _, [] => rfl
  | a :: x, b :: y => by
    unfold cmpL
    have hn := cmpP_neg a b
    by_cases h : cmpP a b = 0
    · rw [if_pos h, if_pos (by rw [hn, h]; rfl), cmpL_neg x y]
    · rw [if_neg h, if_neg (by rw [hn]; omega), hn]
theorem cmpL_range : ∀ x y : List ByteArray, cmpL x y = -1 ∨ cmpL x y = 0 ∨ cmpL x y = 1
  | [], [] => .inr (.inl rfl)
  | [], _ :: _ => .inl rfl
  | _ :: _, [] => .inr (.inr rfl)
  | a :: x, b :: y => by
    unfold cmpL
    split
    · exact cmpL_range x y
    · exact cmpP_range a b
theorem cmpL_trans : ∀ x y z : List ByteArray, cmpL x y < 0 → cmpL y z < 0 → cmpL x z < 0
  | [], [], z, h, h' => by simp [cmpL] at h
  | [], _ :: _, [], h, h' => by simp [cmpL] at h'
  | [], _ :: _, _ :: _, h, h' => by simp [cmpL]
  | _ :: _, [], z, h, h' => by simp [cmpL] at h
  | _ :: _, _ :: _, [], h, h' => by simp [cmpL] at h'
  | a :: x, b :: y, c :: z, h, h' => by
    unfold cmpL at h h' ⊢
    by_cases h1 : cmpP a b = 0
    · rw [if_pos h1] at h
      obtain rfl := (cmpP_zero a b).1 h1
      by_cases h2 : cmpP a c = 0
      · rw [if_pos h2] at h' ⊢
        exact cmpL_trans x y z h h'
      · rw [if_neg h2] at h' ⊢
        exact h'
    · rw [if_neg h1] at h
      by_cases h2 : cmpP b c = 0
      · obtain rfl := (cmpP_zero b c).1 h2
        rw [if_neg h1]
        exact h
      · rw [if_neg h2] at h'
        have h3 := cmpP_trans h h'
        rw [if_neg (by omega)]
        exact h3
/-- The text of parts with dots between. -/
def unL : List (List UInt8) → List UInt8
  | [] => []
  | [p] => p
  | p :: q :: r => p ++ 46 :: unL (q :: r)
theorem unL_split : ∀ s : List UInt8, unL (splitL 46 s) = s
  | [] => rfl
  | x :: xs => by
    have ih := unL_split xs
    obtain ⟨p, ps, hp⟩ := List.exists_cons_of_ne_nil (splitL_ne 46 xs)
    unfold splitL
    rw [hp] at ih ⊢
    by_cases h : x = 46
    · rw [if_pos h]
      show [] ++ 46 :: unL (p :: ps) = _
      rw [ih, h]
      rfl
    · rw [if_neg h]
      cases ps with
      | nil => show x :: p = _; rw [show p = xs from ih]
      | cons q r =>
        show (x :: p) ++ 46 :: unL (q :: r) = _
        have ih2 : p ++ 46 :: unL (q :: r) = xs := ih
        rw [List.cons_append, ih2]
theorem labels_inj {a b : List UInt8} (h : labelsL a = labelsL b) : a = b := by
  unfold labelsL at h
  by_cases ha : a = []
  · rw [if_pos ha] at h
    by_cases hb : b = []
    · rw [ha, hb]
    · rw [if_neg hb] at h
      exact absurd h.symm (splitL_ne 46 b)
  · rw [if_neg ha] at h
    by_cases hb : b = []
    · rw [if_pos hb] at h
      exact absurd h (splitL_ne 46 a)
    · rw [if_neg hb] at h
      rw [← unL_split a, ← unL_split b, h]
theorem ord_zero (a b : List UInt8) : ordL a b = 0 ↔ a = b := by
  unfold ordL
  rw [cmpL_zero]
  refine ⟨fun h => ?_, fun h => by rw [h]⟩
  have h1 := List.reverse_inj.1 h
  refine labels_inj ?_
  have h2 := congrArg (List.map fun x : ByteArray => x.data.toList) h1
  rw [List.map_map, List.map_map] at h2
  have : ((fun x : ByteArray => x.data.toList) ∘ mkB) = id := by funext z; exact mkB_data z
  rwa [this, List.map_id, List.map_id] at h2
theorem ord_neg (a b : List UInt8) : ordL b a = - ordL a b := cmpL_neg _ _
theorem ord_range (a b : List UInt8) : ordL a b = -1 ∨ ordL a b = 0 ∨ ordL a b = 1 := cmpL_range _ _
theorem ord_trans {a b c : List UInt8} (h : ordL a b < 0) (h' : ordL b c < 0) : ordL a c < 0 := cmpL_trans _ _ _ h h'
/-- One name ahead of another one, or the same. -/
def leN (x y : List UInt8) : Bool := !decide (ordL y x < 0)
theorem leN_iff (x y : List UInt8) : leN x y = true ↔ x = y ∨ ordL x y < 0 := by
  unfold leN
  have h1 := ord_neg x y
  have h2 := ord_range x y
  have h3 := ord_zero x y
  simp only [Bool.not_eq_true', decide_eq_false_iff_not]
  constructor
  · intro h
    by_cases h0 : ordL x y = 0
    · exact .inl (h3.1 h0)
    · exact .inr (by omega)
  · rintro (h | h)
    · have := h3.2 h; omega
    · omega
theorem leN_trans (x y z : List UInt8) (h : leN x y = true) (h' : leN y z = true) : leN x z = true := by
  rw [leN_iff] at *
  rcases h with rfl | h
  · exact h'
  · rcases h' with rfl | h'
    · exact .inr h
    · exact .inr (ord_trans h h')
theorem leN_total (x y : List UInt8) : (leN x y || leN y x) = true := by
  rw [Bool.or_eq_true, leN_iff, leN_iff]
  have h1 := ord_neg x y
  have h2 := ord_range x y
  have h3 := ord_zero x y
  by_cases h0 : ordL x y = 0
  · exact .inl (.inl (h3.1 h0))
  · by_cases h : ordL x y < 0
    · exact .inl (.inr h)
    · exact .inr (.inr (by omega))
/-- Names in order, each once. -/
def sortL (l : List (List UInt8)) : List (List UInt8) := Lib.compact (l.mergeSort leN)
theorem compact_mem (l : List (List UInt8)) (x : List UInt8) : x ∈ Lib.compact l ↔ x ∈ l := by
  unfold Lib.compact Lib.compactUpTo
  simp only [List.mem_map, List.mem_filter, List.mem_range]
  constructor
  · rintro ⟨j, ⟨hj, _⟩, rfl⟩
    have : l.toArray[j]! = l[j] := by rw [getElem!_pos _ _ (by simpa using hj)]; simp
    rw [this]
    exact List.getElem_mem hj
  · intro hx
    have hex : ∃ j, ∃ h : j < l.length, l[j] = x := List.mem_iff_getElem.1 hx
    have key : ∀ n, (∃ j, j ≤ n ∧ ∃ h : j < l.length, l[j] = x) → ∃ j, ∃ h : j < l.length, l[j] = x ∧ ∀ i, (hi : i < j) → l[i]'(by omega) ≠ x := by
      intro n
      induction n with
      | zero =>
        rintro ⟨j, hj, h, e⟩
        obtain rfl : j = 0 := by omega
        exact ⟨0, h, e, fun i hi => absurd hi (Nat.not_lt_zero _)⟩
      | succ n ih =>
        rintro ⟨j, hj, h, e⟩
        by_cases hlow : ∃ j, j ≤ n ∧ ∃ h : j < l.length, l[j] = x
        · exact ih hlow
        · exact ⟨j, h, e, fun i hi ei => hlow ⟨i, by omega, by omega, ei⟩⟩
    obtain ⟨j0, h0, e0⟩ := hex
    obtain ⟨j, hj, e, hmin⟩ := key j0 ⟨j0, Nat.le_refl _, h0, e0⟩
    have g : ∀ i (hi : i < l.length), l.toArray[i]! = l[i] := fun i hi => by rw [getElem!_pos _ _ (by simpa using hi)]; simp
    refine ⟨j, ⟨hj, ?_⟩, by rw [g j hj]; exact e⟩
    unfold Lib.keeps
    rw [decide_eq_true_eq]
    by_cases h1 : j = 0
    · exact .inl h1
    · right
      rw [g j hj, g (j - 1) (by omega), e]
      exact fun e2 => hmin (j - 1) (by omega) e2.symm
theorem compact_sorted (l : List (List UInt8)) (h : l.Pairwise fun x y => leN x y = true) : (Lib.compact l).Pairwise fun x y => ordL x y < 0 := by
  have g : ∀ i (hi : i < l.length), l.toArray[i]! = l[i] := fun i hi => by rw [getElem!_pos _ _ (by simpa using hi)]; simp
  unfold Lib.compact Lib.compactUpTo
  rw [List.pairwise_map]
  have h1 : (List.range l.length).Pairwise (· < ·) := List.pairwise_lt_range
  have h2 : ((List.range l.length).filter (Lib.keeps l.toArray)).Pairwise (· < ·) := h1.sublist List.filter_sublist
  refine List.Pairwise.imp_of_mem ?_ h2
  intro i j hi hj hij
  simp only [List.mem_filter, List.mem_range] at hi hj
  have hk := hj.2
  unfold Lib.keeps at hk
  rw [decide_eq_true_eq] at hk
  rcases hk with hk | hk
  · omega
  rw [g i hi.1, g j hj.1]
  rw [g j hj.1, g (j - 1) (by omega)] at hk
  have hp := List.pairwise_iff_getElem.1 h
  have a1 : leN l[j - 1] l[j] = true := hp (j - 1) j (by omega) hj.1 (by omega)
  have a2 : ordL l[j - 1] l[j] < 0 := by
    rcases (leN_iff _ _).1 a1 with e | e
    · exact absurd e.symm hk
    · exact e
  by_cases e : i = j - 1
  · subst e; exact a2
  · have a3 : leN l[i] l[j - 1] = true := hp i (j - 1) hi.1 (by omega) (by omega)
    rcases (leN_iff _ _).1 a3 with e2 | e2
    · rw [e2]; exact a2
    · exact ord_trans e2 a2
theorem sortL_mem (l : List (List UInt8)) (x : List UInt8) : x ∈ sortL l ↔ x ∈ l := by
  unfold sortL
  rw [compact_mem]
  exact (List.mergeSort_perm l leN).mem_iff
theorem sortL_sorted (l : List (List UInt8)) : (sortL l).Pairwise fun x y => ordL x y < 0 :=
  compact_sorted _ (List.pairwise_mergeSort leN_trans leN_total l)
/-- There is one such list. -/
theorem sorted_one : ∀ (a b : List (List UInt8)), a.Pairwise (fun x y => ordL x y < 0) → b.Pairwise (fun x y => ordL x y < 0) → (∀ x, x ∈ a ↔ x ∈ b) → a = b
  | [], [], _, _, _ => rfl
  | [], y :: b, _, _, h => absurd ((h y).2 List.mem_cons_self) (by simp)
  | x :: a, [], _, _, h => absurd ((h x).1 List.mem_cons_self) (by simp)
  | x :: a, y :: b, ha, hb, h => by
    have ha' := List.pairwise_cons.1 ha
    have hb' := List.pairwise_cons.1 hb
    have irr : ∀ z, ¬ ordL z z < 0 := fun z => by rw [(ord_zero z z).2 rfl]; omega
    have exy : x = y := by
      rcases List.mem_cons.1 ((h x).1 List.mem_cons_self) with e | e
      · exact e
      · rcases List.mem_cons.1 ((h y).2 List.mem_cons_self) with e2 | e2
        · exact e2.symm
        · exact absurd (ord_trans (ha'.1 y e2) (hb'.1 x e)) (irr x)
    subst exy
    rw [sorted_one a b ha'.2 hb'.2 fun z => ?_]
    constructor
    · intro hz
      rcases List.mem_cons.1 ((h z).1 (List.mem_cons_of_mem _ hz)) with e | e
      · rw [e] at hz
        exact absurd (ha'.1 x hz) (irr x)
      · exact e
    · intro hz
      rcases List.mem_cons.1 ((h z).2 (List.mem_cons_of_mem _ hz)) with e | e
      · rw [e] at hz
        exact absurd (hb'.1 x hz) (irr x)
      · exact e
/-- What SortNames returns. -/
def sortR (l : List ByteArray) : List ByteArray × Bool :=
  if decide (l.length ≤ 60) && l.all (fun x => goodL x.data.toList) then ((sortL (l.map (·.data.toList))).map mkB, true) else ([], false)
end Go.Proofs.YtggfgfehlcpnmaaDoor.Pure

-- F21
-- By my own call of the kit's print (wip/tools/pp.py).
namespace Go.Proofs.YtggfgfehlcpnmaaDoor.P
open Go.RowKit Go.Proofs.YtggfgfehlcpnmaaDoorW.PrintWords Go.Proofs.YtggfgfehlcpnmaaDoorW.PrintLast Go.Proofs.YtggfgfehlcpnmaaDoorW.PrintMore
attribute [local go_sem] max2_int min2_int max_two min_two max_three min_three max_four min_four
set_option linter.unusedVariables false
set_option linter.unusedSimpArgs false

/-! ### impl_SortNames_1: function 21 -/
def impl_SortNames_1.f (a0 : ByteArray) : Option (Bool) := (impl_GoodName.f a0).bind fun t388 => (some (!t388))
set_option maxHeartbeats 8000000 in
set_option maxRecDepth 100000 in
theorem impl_SortNames_1.calls (a0 : ByteArray) (r : Bool) (w : World) (h : impl_SortNames_1.f a0 = some r) :
    Calls Tryd.prog 21 #[.string a0] w fun e w' => e = .returned (.bool r) ∧ Below w.heap.size w w' := by
  have HB := Aside0.mk (Below.refl w.heap.size w)
  have H : ((impl_GoodName.f a0).bind fun t388 => (some (!t388))) = some r := h
  clear h
  replace H := Option.bind_eq_some_iff.mp H
  obtain ⟨t388, A20, H⟩ := H
  replace H : (some (!t388)) = some r := H
  have A2 := Aside0.mk A20
  clear A20
  obtain rfl := Option.some.inj H
  go_enter Tryd.func21, Tryd.ntmps21
  go_wp2_with (first | ((with_reducible refine gate_callee (f := 22) rfl ?_); refine goesL_ (some 4) rfl rfl Tryd.func22 (by kernel_rfl) rfl #[.string a0] rfl (by (try simp only [List.map_toArray, List.map_cons, List.map_nil]); first | done | rfl | (simp only [List.length_drop, List.length_take]; rfl)) ?_; (with_reducible refine (impl_GoodName.calls a0 t388 _ A2.out).mono ?_); rintro e w3 ⟨rfl, hb⟩; refine ⟨_, rfl, ?_⟩; have n0_ := Aside0.mk (below_step (by repeat (first | (with_reducible first | exact HB.out | apply below_alloc | apply pw_below_drewN | apply below_drew1) | exact HB.out)) hb); clear HB; have HB := n0_; clear n0_; (try clear hb); (try clear hb2); (try clear hk); (try clear hi)))
  go_ret
  exact ⟨by first | rfl | (simp [errW_none, errW_some] <;> rfl) | (simp [*, errW_none, errW_some] <;> rfl), by repeat (first | (with_reducible first | exact HB.out | apply below_alloc | apply pw_below_drewN | apply below_drew1) | exact HB.out)⟩

end Go.Proofs.YtggfgfehlcpnmaaDoor.P

-- HSort
/- impl.SortNames: what it returns, over slices.Clone, slices.SortFunc, slices.Compact of the shelf. Conditions: none. -/
namespace Go.Proofs.YtggfgfehlcpnmaaDoor.P
open Go.Shelf Go.Sort Go.RowKit Go.Proofs.YtggfgfehlcpnmaaDoorW.PrintWords Go.Proofs.YtggfgfehlcpnmaaDoorW.PrintLast Go.Proofs.YtggfgfehlcpnmaaDoorW.PrintMore
set_option linter.unusedVariables false
set_option linter.unusedSimpArgs false
theorem spot_R {T : Nat} {w : World} {b : Nat} {ok : Nat → Prop} {A : Option Addr} {n c : Nat} {xs : List ByteArray} (h : Kd.R Kd.string T w b ok (.slice A n c) xs) : ∀ ad, A = some ad → ad.spot = none := by
  intro ad e
  obtain ⟨cs, hown, _⟩ := h.2
  rcases hown.2 with ⟨h1, _⟩ | ⟨g, cap, cur, h1, _⟩
  · injection h1 with h2
    rw [e] at h2
    cases h2
  · injection h1 with h2
    rw [e] at h2
    injection h2 with h2
    rw [h2]
abbrev Nm := {l : List UInt8 // goodL l = true}
instance : Inhabited Nm := ⟨⟨[], rfl⟩⟩
def encN (x : Nm) : Value := encStr x.1
def ordN (x y : Nm) : Int := Pure.ordL x.1 y.1
theorem lt_ord (x y : Nm) : ltOf ordN x y = decide (Pure.ordL x.1 y.1 < 0) := rfl
theorem swoN : SWO (ltOf ordN) where
  irrefl x := by rw [lt_ord, (Pure.ord_zero _ _).2 rfl]; rfl
  trans x y z h h' := by
    rw [lt_ord] at *
    exact decide_eq_true (Pure.ord_trans (of_decide_eq_true h) (of_decide_eq_true h'))
  ntrans x y z h h' := by
    have e : ∀ a b : Nm, ltOf ordN a b = !Pure.leN b.1 a.1 := fun a b => by unfold Pure.leN; rw [Bool.not_not]; rfl
    rw [e] at *
    simp only [Bool.not_eq_false'] at *
    exact Pure.leN_trans _ _ _ h' h
theorem partsN (x y : Nm) (h : ltOf ordN x y = false) (h' : ltOf ordN y x = false) : x = y := by
  rw [lt_ord] at h h'
  have h1 := of_decide_eq_false h
  have h2 := of_decide_eq_false h'
  have h3 := Pure.ord_neg x.1 y.1
  exact Subtype.ext ((Pure.ord_zero _ _).1 (by omega))
theorem cmp_lays (W : World) (blk off n : Nat) : CmpLays1 Tryd.prog 25 #[] encN ordN blk off n W := by
  intro m os dk hs x y
  have hx := Pure.good_size x.2
  have hy := Pure.good_size y.2
  obtain ⟨K, hK⟩ := Pure.implComp_ev (mkB x.1) (mkB y.1) (by rw [mkB_size]; omega) (by rw [mkB_size]; omega)
  have h := hK K (Nat.le_refl _)
  rw [mkB_data, mkB_data] at h
  rw [Array.append_empty]
  refine (impl_compareNames.callsU K (mkB x.1) (mkB y.1) _ _ h).mono ?_
  rintro e w' ⟨rfl, hu⟩
  exact ⟨rfl, hu.grown⟩
theorem getN (d : Array Nm) (k : Nat) (h : k < d.size) : (d.map Subtype.val)[k]! = (d[k]!).1 := by
  rw [getElem!_pos _ k (by simpa using h), getElem!_pos d k h]
  simp
theorem putRow_nm (w : World) (g : Nat) (d : Array Nm) : putRow encN w g 0 d = putRow encStr w g 0 (d.map Subtype.val) := by
  unfold putRow
  congr 1
  funext c
  unfold putCells
  congr 1
  funext k x
  rw [Array.size_map]
  split
  · next h =>
    unfold encN
    rw [Nat.sub_zero, getN d k (by omega)]
  · rfl
/-- slices.SortFunc over a row of names of the call's own. -/
theorem sort_own (W : World) (g cap : Nat) (cur : Array Value) (l : List (List UInt8)) (hg : ∀ x ∈ l, goodL x = true) (hl : l.length ≤ 60) (hb : W.heap[g]? = some (.cells cur 9 (0, 0))) (ht : cur.toList.take l.length = l.map encStr) :
    Calls Tryd.prog 24 #[.slice (some ⟨g, 0, none⟩) l.length cap, .func (.func 25) #[] #[]] W fun e w' => e = .returned (.tuple #[]) ∧ ∃ n os, w' = grow (putRow encStr (Sort.ahead W n) g 0 (l.mergeSort Pure.leN).toArray) os := by
  obtain ⟨dn, hdn⟩ : ∃ dn : List Nm, dn.map Subtype.val = l := ⟨l.attach.map fun x => ⟨x.1, hg x.1 x.2⟩, by rw [List.map_map]; exact List.attach_map_subtype_val l⟩
  have eg : ∀ args w, (callFunc 25 args).run Tryd.prog w = .ok (.enter 25 args) w := enters_of Tryd.func25 (by kernel_rfl) rfl
  have hH0 : Holds encStr W g 0 l.toArray := holds_of_block hb ht
  have hlen : dn.length = l.length := by rw [← hdn, List.length_map]
  have hH : Holds encN W g 0 dn.toArray := by
    intro j hj
    have hj2 : j < l.toArray.size := by simpa [← hlen] using hj
    have := hH0 j hj2
    have e : l.toArray[j]! = (dn.toArray[j]!).1 := by
      rw [← getN dn.toArray j hj]
      simp [hdn]
    rw [e] at this
    exact this
  have hblk : g < W.heap.size := (Array.getElem?_eq_some_iff.1 hb).1
  have hc := Any.slices_SortFunc_total Tryd.sort encN (fun _ => rfl) ordN swoN 25 #[] g 0 cap dn.toArray W eg (cmp_lays W g 0 _) hH hblk (by simp; omega) partsN
  have hm : ((dn.mergeSort fun x y => !(ltOf ordN) y x).toArray.map Subtype.val) = (l.mergeSort Pure.leN).toArray := by
    rw [List.map_toArray]
    congr 1
    rw [← hdn]
    exact List.map_mergeSort (fun a _ b _ => rfl)
  have hc2 : Calls Tryd.prog 24 #[.slice (some ⟨g, 0, none⟩) dn.length cap, .func (.func 25) #[] #[]] W fun e w' => e = .returned (.tuple #[]) ∧ ∃ n os, w' = sortWorld encN W g 0 n (dn.mergeSort fun x y => !(ltOf ordN) y x).toArray os := hc
  rw [hlen] at hc2
  refine hc2.mono ?_
  rintro e w' ⟨he, n, os, hw⟩
  refine ⟨he, n, os, ?_⟩
  rw [hw]
  unfold sortWorld
  rw [putRow_nm, hm]
/-- slices.SortFunc at no element. -/
theorem sort_none (W : World) (p : Option Addr) (cap : Nat) (fv : Value) : Calls Tryd.prog 24 #[.slice p 0 cap, fv] W fun e w' => e = .returned (.tuple #[]) ∧ w' = W :=
  AnyF.slices_SortFunc_none (P := Tryd.prog) { Tryd.sort with } p cap fv W
theorem compact_own (W : World) (g cap : Nat) (zs : List (List UInt8)) (hH : Holds encStr W g 0 zs.toArray) (hsz : zs.length ≤ 60) (hcap : zs.length ≤ cap) :
    Calls Tryd.prog 26 #[.slice (some ⟨g, 0, none⟩) zs.length cap] W fun e w' => e = .returned (.slice (some ⟨g, 0, none⟩) (Lib.compact zs).length cap) ∧ ∃ q, w' = putRow encStr (Sort.ahead W q) g 0 (Lib.compact zs ++ List.replicate (zs.length - (Lib.compact zs).length) []).toArray :=
  Any.slices_Compact_string Tryd.lays194 g 0 cap zs W hH (by omega) hcap
theorem compact_none (W : World) (a : Option Addr) (cap : Nat) : Calls Tryd.prog 26 #[.slice a 0 cap] W fun e w' => e = .returned (.slice a 0 cap) ∧ w' = W :=
  Any.slices_Compact_string_empty Tryd.lays194 a cap W
theorem clone_own (W : World) (b off c : Nat) (l : List ByteArray) (hl : l.length ≤ 60) (hc : ∀ j, j < l.length → W.cell? ⟨b, off + j, none⟩ = some (.string (l.getD j ByteArray.empty))) :
    Calls Tryd.prog 23 #[.slice (some ⟨b, off, none⟩) l.length c] W fun e w' => ∃ v', e = .returned v' ∧ w'.ownsRow W.heap.size 9 1 v' l.length (l.map Value.string) ∧ v' ≠ .slice none 0 0 ∧ Below W.heap.size W w' := by
  have h := Any.slices_Clone_string Tryd.lays2_16 b off l.length c l W (Nat.le_refl _) (by omega) hc
  rw [List.take_length] at h
  exact h
theorem clone_zero (W : World) (a : Addr) (c : Nat) :
    Calls Tryd.prog 23 #[.slice (some a) 0 c] W fun e w' => ∃ v', e = .returned v' ∧ w'.ownsRow W.heap.size 9 1 v' 0 [] ∧ v' ≠ .slice none 0 0 ∧ Below W.heap.size W w' :=
  Any.slices_Clone_string_zero Tryd.lays2_16 a c W
theorem clone_nil (W : World) (n c : Nat) :
    Calls Tryd.prog 23 #[.slice none n c] W fun e w' => e = .returned (.slice none 0 0) ∧ w' = W :=
  Any.slices_Clone_string_nil Tryd.lays2_16 n c W

theorem add_plain2 (b off j : Nat) : (⟨b, off, none⟩ : Addr).add j = ⟨b, off + j, none⟩ := by first | rfl | simp [Addr.add]
def impl_SortNames.f (l : List ByteArray) : Option (List ByteArray × Bool) := some (Pure.sortR l)

theorem sortn_closure (x : ByteArray) (W : World) : Calls Tryd.prog 21 #[.string x] W fun e W' => e = .returned (.bool (!goodL x.data.toList)) ∧ Below W.heap.size W W' :=
  impl_SortNames_1.calls x _ W (by unfold impl_SortNames_1.f impl_GoodName.f; rfl)

/-- The row behind SortFunc and Compact. -/
theorem sorted_row (W : World) (base g cap n q : Nat) (os : Array Obj) (cur : Array Value) (l : List (List UInt8)) (hbase : base ≤ g) (hb : W.heap[g]? = some (.cells cur 9 (0, 0))) (h1 : l.length ≤ cap) (h2 : cap ≤ maxLen) (h3 : cur.size = cap * 1) :
    Kd.R Kd.string 9 (putRow encStr (Sort.ahead (grow (putRow encStr (Sort.ahead W n) g 0 (l.mergeSort Pure.leN).toArray) os) q) g 0 (Lib.compact (l.mergeSort Pure.leN) ++ List.replicate ((l.mergeSort Pure.leN).length - (Lib.compact (l.mergeSort Pure.leN)).length) []).toArray) base (fun _ => True) (.slice (some ⟨g, 0, none⟩) (Lib.compact (l.mergeSort Pure.leN)).length cap) ((Pure.sortL l).map mkB)
    ∧ Below base W (putRow encStr (Sort.ahead (grow (putRow encStr (Sort.ahead W n) g 0 (l.mergeSort Pure.leN).toArray) os) q) g 0 (Lib.compact (l.mergeSort Pure.leN) ++ List.replicate ((l.mergeSort Pure.leN).length - (Lib.compact (l.mergeSort Pure.leN)).length) []).toArray) := by
  have hm : (l.mergeSort Pure.leN).length = l.length := List.length_mergeSort ..
  have hcl : (Lib.compact (l.mergeSort Pure.leN)).length ≤ (l.mergeSort Pure.leN).length := by
    unfold Lib.compact Lib.compactUpTo
    rw [List.length_map]
    exact Nat.le_trans (List.length_filter_le _ _) (by rw [List.length_range]; exact Nat.le_refl _)
  have hs : Pure.sortL l = Lib.compact (l.mergeSort Pure.leN) := rfl
  have hg := (Array.getElem?_eq_some_iff.1 hb).1
  have hb1 := heap_sorted (n := n) (os := os) (l.mergeSort Pure.leN).toArray hb
  have gb1 := grownBy_sorted (w := W) (g := g) (n := n) (os := os) (l.mergeSort Pure.leN).toArray
  generalize grow (putRow encStr (Sort.ahead W n) g 0 (l.mergeSort Pure.leN).toArray) os = W1 at hb1 gb1 ⊢
  have hsz1 : (putCells encStr 0 (l.mergeSort Pure.leN).toArray cur).size = cap * 1 := by simp [putCells, h3]
  generalize putCells encStr 0 (l.mergeSort Pure.leN).toArray cur = cur1 at hb1 hsz1
  have hb2 := heap_sorted (n := q) (os := #[]) (Lib.compact (l.mergeSort Pure.leN) ++ List.replicate ((l.mergeSort Pure.leN).length - (Lib.compact (l.mergeSort Pure.leN)).length) []).toArray hb1
  have gb2 := grownBy_sorted (w := W1) (g := g) (n := q) (os := #[]) (Lib.compact (l.mergeSort Pure.leN) ++ List.replicate ((l.mergeSort Pure.leN).length - (Lib.compact (l.mergeSort Pure.leN)).length) []).toArray
  rw [grow_empty] at hb2 gb2
  rw [hs]
  generalize Lib.compact (l.mergeSort Pure.leN) = cs at hb2 gb2 hcl ⊢
  have hts : (cs ++ List.replicate ((l.mergeSort Pure.leN).length - cs.length) ([] : List UInt8)).length = l.length := by
    rw [List.length_append, List.length_replicate]; omega
  have htk := take_putCells cur1 (cs ++ List.replicate ((l.mergeSort Pure.leN).length - cs.length) ([] : List UInt8)) (by omega)
  have hbel : Below base W W1 := pw_below_grown (Below.refl _ _) (some g) (by omega) gb1 (fun k hk => by cases hk; exact hbase)
  refine ⟨⟨fun _ _ => trivial, ((cs.map mkB).map Value.string), ⟨by rw [List.length_map, List.length_map]; exact (Nat.mul_one _).symm, .inr ⟨g, cap, _, by rw [List.length_map], hbase, hb2, by rw [List.length_map]; omega, h2, by show _ = cap * 1; simp [putCells, hsz1], ?_⟩⟩, reps_strs (fun x c => c = [.string x]) (fun _ => rfl) (cs.map mkB)⟩, ?_⟩
  · have e : (cs.map mkB).map Value.string = cs.map encStr := by rw [List.map_map]; rfl
    rw [e, List.length_map, show cs.length * Kd.string.sz = cs.length from Nat.mul_one _]
    have h4 := congrArg (List.take cs.length) htk
    rw [List.take_take, hts, show min cs.length l.length = cs.length by omega, ← List.map_take, List.take_append_of_le_length (Nat.le_refl _), List.take_length] at h4
    exact h4
  · exact pw_below_grown hbel (some g) (by have := hbel.size; omega) gb2 (fun k hk => by cases hk; exact hbase)

set_option maxHeartbeats 4000000 in
theorem impl_SortNames.calls (A0 : Option Addr) (c0 : Nat) (l0 : List ByteArray) (r1 : List ByteArray) (r2 : Bool) (w : World) (hr0 : Kd.C Kd.string w A0 l0.length l0) (hc0 : l0.length ≤ c0) (h : impl_SortNames.f l0 = some (r1, r2))
    (hs : ∀ ad, A0 = some ad → ad.spot = none := by first | exact spot_R (Aside0.out (by assumption)) | exact spot_R (by assumption)) :
    Calls Tryd.prog 8 #[.slice A0 l0.length c0] w fun e w' => ∃ v0_ : Value, e = .returned (.tuple #[v0_, .bool r2]) ∧ Kd.R Kd.string 9 w' w.heap.size (fun _ => True) v0_ r1 ∧ Below w.heap.size w w' := by
  have HR : Aside0 (Pure.sortR l0 = (r1, r2)) := ⟨Option.some.inj h⟩
  clear h
  unfold Pure.sortR at HR
  by_cases h8 : l0.length ≤ 60
  · have eg : ∀ args w, (callFunc 21 args).run Tryd.prog w = .ok (.enter 21 args) w := enters_of Tryd.func21 (by kernel_rfl) rfl
    have cc := contains_str A0 c0 l0 21 #[] (fun x => !goodL x.data.toList) w hr0 eg (fun x _ W' _ => sortn_closure x W')
    have hany : l0.any (fun x => !goodL x.data.toList) = !l0.all (fun x => goodL x.data.toList) := by rw [List.not_all_eq_any_not]
    rw [hany] at cc
    rw [decide_eq_true h8, Bool.true_and] at HR
    have h8a : decide (60 < l0.length) = false := decide_eq_false (by omega)
    have h8b : decide ((60 : Int) < (l0.length : Int)) = false := decide_eq_false (by omega)
    cases ha : l0.all (fun x => goodL x.data.toList) with
    | false =>
      rw [ha] at cc
      rw [ha, if_neg (by simp)] at HR
      obtain ⟨rfl, rfl⟩ := Prod.mk.inj HR.out
      clear HR ha hany
      go_enter Tryd.func8, Tryd.ntmps8
      go_wp2_with (first | (go_at_call 20; refine cc.mono ?_; rintro e w1 ⟨rfl, hb⟩))
      go_ret2
      exact ⟨_, rfl, Kd.R_nil _ _ _ _ _, hb⟩
    | true =>
      rw [ha] at cc
      rw [ha, if_pos rfl] at HR
      obtain ⟨rfl, rfl⟩ := Prod.mk.inj HR.out
      have hall := Aside0.mk (List.all_eq_true.1 ha)
      clear HR ha hany
      by_cases h0 : l0.length = 0
      · have e0 : l0 = [] := List.length_eq_zero_iff.1 h0
        subst e0
        have hR0 : (Pure.sortL (([] : List ByteArray).map (·.data.toList))).map mkB = [] := by
          show (Lib.compact (List.mergeSort [] Pure.leN)).map mkB = []
          rw [List.mergeSort_nil]
          rfl
        rw [hR0]
        clear hall
        rcases A0 with _ | ad
        · go_enter Tryd.func8, Tryd.ntmps8
          go_wp2_with (first | (go_at_call 20; refine cc.mono ?_; rintro e w1 ⟨rfl, hb⟩) | (go_at_call 23; refine (clone_nil _ _ _).mono ?_; rintro e w2 ⟨rfl, rfl⟩) | (go_at_call 24; refine (sort_none _ _ _ _).mono ?_; rintro e w3 ⟨rfl, rfl⟩) | (go_at_call 26; refine (compact_none _ _ _).mono ?_; rintro e w4 ⟨rfl, rfl⟩))
          go_ret2
          exact ⟨_, rfl, Kd.R_nil _ _ _ _ _, hb⟩
        · go_enter Tryd.func8, Tryd.ntmps8
          go_wp2_with (first | (go_at_call 20; refine cc.mono ?_; rintro e w1 ⟨rfl, hb⟩) | (go_at_call 23; refine (clone_zero _ _ _).mono ?_; rintro e w2 ⟨v2, rfl, ho, hne, hb2⟩; (rcases ho.2 with ⟨hnil, _⟩ | ⟨g, cap, cur, rfl, hbase, hgb, h1, h2, h3, h4⟩; (exact absurd hnil hne))) | (go_at_call 24; refine (sort_none _ _ _ _).mono ?_; rintro e w3 ⟨rfl, rfl⟩) | (go_at_call 26; refine (compact_none _ _ _).mono ?_; rintro e w4 ⟨rfl, rfl⟩))
          go_ret2
          exact ⟨_, rfl, ⟨fun _ _ => trivial, [], own_less ho hb.size, Reps.none _ _⟩, below_then hb hb.size hb2⟩
      · have hA : ∃ ad, A0 = some ad := by
          obtain ⟨ad, e, _⟩ := Kd.at_string hr0 0 (by omega) (by omega)
          exact ⟨ad, e⟩
        obtain ⟨⟨b, off, spot⟩, rfl⟩ := hA
        have hsp := hs _ rfl
        simp only at hsp
        subst hsp
        have cl := fun (W : World) (hbW : Below w.heap.size w W) => clone_own W b off c0 l0 h8 (fun j hj => by
          obtain ⟨ad, e, hx⟩ := Kd.at_string (Kd.C_below hr0 hbW) (j : Int) (by omega) (by omega)
          cases e
          rw [Int.toNat_natCast, add_plain2] at hx
          exact hx)
        have hgood : ∀ x ∈ l0.map (·.data.toList), goodL x = true := by
          intro x hx
          obtain ⟨z, hz, rfl⟩ := List.mem_map.1 hx
          exact hall.out z hz
        have hmap : (l0.map Value.string) = (l0.map (·.data.toList)).map encStr := by
          rw [List.map_map]
          refine List.map_congr_left fun x _ => ?_
          show Value.string x = Value.string (mkB x.data.toList)
          rw [data_mkB]
        have hlen : (l0.map (·.data.toList)).length = l0.length := List.length_map ..
        rw [hmap] at cl
        generalize l0.map (·.data.toList) = ls at cl hgood hlen
        have hml : (ls.mergeSort Pure.leN).length = l0.length := by rw [List.length_mergeSort, hlen]
        have SO := Aside0.mk (fun (W : World) (g cap : Nat) (cur : Array Value) (hb : W.heap[g]? = some (.cells cur 9 (0, 0))) (ht : cur.toList.take (l0.length * 1) = ls.map encStr) => by
          have := sort_own W g cap cur ls hgood (by omega) hb (by rw [hlen, ← Nat.mul_one l0.length]; exact ht)
          rw [hlen] at this
          exact this)
        have CO := Aside0.mk (fun (W : World) (g cap n : Nat) (os : Array Obj) (cur : Array Value) (hb : W.heap[g]? = some (.cells cur 9 (0, 0))) (h1 : l0.length ≤ cap) (h3 : cur.size = cap * 1) => by
          have := compact_own (grow (putRow encStr (Sort.ahead W n) g 0 (ls.mergeSort Pure.leN).toArray) os) g cap (ls.mergeSort Pure.leN) (holds_of_block (heap_sorted _ hb) (take_putCells cur _ (by omega))) (by omega) (by omega)
          rw [hml] at this
          exact this)
        have SR := Aside0.mk (fun (W : World) (base g cap n q : Nat) (os : Array Obj) (cur : Array Value) (hbase : base ≤ g) (hb : W.heap[g]? = some (.cells cur 9 (0, 0))) (h1 : l0.length ≤ cap) (h2 : cap ≤ maxLen) (h3 : cur.size = cap * 1) => by
          have := sorted_row W base g cap n q os cur ls hbase hb (by omega) h2 h3
          rw [hml] at this
          exact this)
        generalize Pure.sortL ls = res at SR ⊢
        have h8c : (60 < l0.length) = False := eq_false (by omega)
        clear hgood hmap hall h0 hr0 h8 hlen hml
        go_enter Tryd.func8, Tryd.ntmps8
        go_wp2_with (first | (go_at_call 20; refine cc.mono ?_; rintro e w1 ⟨rfl, hb⟩) | (go_at_call 23; refine (cl _ hb).mono ?_; rintro e w2 ⟨v2, rfl, ho, hne, hb2⟩; (rcases ho.2 with ⟨hnil, _⟩ | ⟨g, cap, cur, rfl, hbase, hgb, h1, h2, h3, h4⟩; (exact absurd hnil hne))) | (go_at_call 24; refine (SO.out w2 g cap cur hgb h4).mono ?_; rintro e w3 ⟨rfl, n, os, rfl⟩) | (go_at_call 26; refine (CO.out w2 g cap n os cur hgb h1 h3).mono ?_; rintro e w4 ⟨rfl, q, rfl⟩))
        go_ret2
        obtain ⟨s1, s2⟩ := SR.out w2 w.heap.size g cap n q os cur (by have := hb.size; omega) hgb h1 h2 h3
        exact ⟨_, rfl, s1, (below_then hb hb.size hb2).trans s2⟩
  · have h8a : decide (60 < l0.length) = true := decide_eq_true (by omega)
    have h8b : decide ((60 : Int) < (l0.length : Int)) = true := decide_eq_true (by omega)
    rw [decide_eq_false h8, Bool.false_and, if_neg (by simp)] at HR
    obtain ⟨rfl, rfl⟩ := Prod.mk.inj HR.out
    clear HR h8
    go_enter Tryd.func8, Tryd.ntmps8
    go_wp2
    go_ret2
    exact ⟨_, rfl, Kd.R_nil _ _ _ _ _, Below.refl _ _⟩
end Go.Proofs.YtggfgfehlcpnmaaDoor.P
