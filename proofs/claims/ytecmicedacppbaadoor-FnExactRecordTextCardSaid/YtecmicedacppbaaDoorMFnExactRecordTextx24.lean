/- FnExactRecordText: part 25 of 30 of my texts for this claim, joined; the theorem stands in the last. Conditions: none beyond the statement's. -/
import Derived.Test.YtecmicedacppbaaDoorMFnExactRecordTextx23
import Derived.Test.YtecmicedacppbaaDoorMFnExactRecordTextx17
import Derived.Test.YtecmicedacppbaaDoorMFnExactRecordTextx9
import Derived.Test.YtecmicedacppbaaDoorMFnExactRecordTextx3
import Derived.Test.YtecmicedacppbaaDoorMFnExactRecordTextx10
import Derived.Test.YtecmicedacppbaaDoorMFnExactRecordTextx18
-- PureNB
/- The bytes of a name's labels: the reference's and the program's, and how many they are. Conditions: a good name. -/
namespace Go.Proofs.YtecmicedacppbaaDoor.Pure
open Go.RowKit Go.Proofs.YtecmicedacppbaaDoor.P Go.Proofs.YtecmicedacppbaaDoorW.PrintWords Go.Proofs.YtecmicedacppbaaDoorW.PrintLast
set_option linter.unusedVariables false
set_option linter.unusedSimpArgs false
theorem nb_rd (l : List ByteArray) (i : Nat) (h : i < l.length) : rdOf ByteArray.empty l (i : Int) = l[i] := by
  unfold rdOf
  rw [Int.toNat_natCast, List.getD_eq_getElem?_getD, List.getElem?_eq_getElem h]
  rfl
theorem nb_loops (parts : List ByteArray) (hp : ∀ p ∈ parts, p.size ≤ 1000) (hl : parts.length ≤ 1000) : ∀ (m i : Nat) (acc : ByteArray), i + m = parts.length → acc.size + m * 1024 < 1099511627776 →
    ∃ r, Ev (fun k => impl_labelBytes.l0 k acc parts (parts.length : Int) (i : Int)) r ∧ Ev (fun k => spec_l2Bytes.l0 k acc parts (parts.length : Int) (i : Int)) (r ++ (⟨#[0]⟩ : ByteArray)) ∧ r.size = acc.size + ((parts.drop i).map fun p => 1 + p.size).sum ∧ r.size < 1099511627776
  | 0, i, acc, him, ha => by
    refine ⟨acc, Ev.step (f := fun _ => some acc) (fun k => ?_) (Ev.now _), Ev.step (f := fun _ => some (acc ++ (⟨#[0]⟩ : ByteArray))) (fun k => ?_) (Ev.now _), by rw [List.drop_of_length_le (by omega)]; rfl, by omega⟩
    · show impl_labelBytes.l0 (k + 1) acc parts (parts.length : Int) (i : Int) = _
      unfold impl_labelBytes.l0
      rw [if_neg (by omega)]
    · show spec_l2Bytes.l0 (k + 1) acc parts (parts.length : Int) (i : Int) = _
      unfold spec_l2Bytes.l0
      rw [if_neg (by omega), if_pos (by omega)]
  | m + 1, i, acc, him, ha => by
    have hi : i < parts.length := by omega
    have hs : ∀ v : Int, (strOfNums [v]).size = 1 := fun v => by rw [strOfNums_size]; rfl
    have hpi := hp _ (List.getElem_mem hi)
    obtain ⟨r, h1, h2, h3, h4⟩ := nb_loops parts hp hl m (i + 1) (acc ++ (strOfNums [((parts[i].size : Int)) % 256] ++ parts[i])) (by omega) (by
      rw [ByteArray.size_append, ByteArray.size_append, hs]; omega)
    refine ⟨r, Ev.step (fun k => ?_) h1, Ev.step (fun k => ?_) h2, ?_, h4⟩
    · show impl_labelBytes.l0 (k + 1) acc parts (parts.length : Int) (i : Int) = _
      conv => lhs; unfold impl_labelBytes.l0
      rw [if_pos (by omega), if_pos (by omega), if_pos (by omega), nb_rd _ _ hi, Option.bind_some, if_pos (by rw [hs]; omega), if_pos (by rw [ByteArray.size_append, hs]; omega), w64n (by omega)]
    · show spec_l2Bytes.l0 (k + 1) acc parts (parts.length : Int) (i : Int) = _
      conv => lhs; unfold spec_l2Bytes.l0
      rw [if_pos (by omega), if_pos (by omega), if_pos (by omega), nb_rd _ _ hi, Option.bind_some, if_pos (by rw [hs]; omega), if_pos (by rw [ByteArray.size_append, hs]; omega), w64n (by omega)]
    · rw [h3, ByteArray.size_append, ByteArray.size_append, hs, List.drop_eq_getElem_cons hi, List.map_cons, List.sum_cons]
      omega
theorem split_sum : ∀ l : List UInt8, ((splitL 46 l).map fun p => 1 + p.length).sum = l.length + 1
  | [] => rfl
  | x :: xs => by
    have ih := split_sum xs
    unfold splitL
    split
    · rw [List.map_cons, List.sum_cons, ih, List.length_cons, List.length_nil]
      omega
    · cases hs : splitL 46 xs with
      | nil => exact absurd hs (splitL_ne 46 xs)
      | cons p ps =>
        rw [hs, List.map_cons, List.sum_cons] at ih
        rw [List.map_cons, List.sum_cons, List.length_cons, List.length_cons]
        omega
theorem nb_both (s : ByteArray) (h : goodL s.data.toList = true) : ∃ r, Ev (fun k => impl_labelBytes.f k s) r ∧ Ev (fun k => spec_l2Bytes.f k s) (r ++ (⟨#[0]⟩ : ByteArray)) ∧ r.size = (if s.size = 0 then 0 else s.size + 1) := by
  have hg := good_size h
  have hss := size_len s
  obtain ⟨q, e1, e2, e3⟩ := labels_ev s (by omega)
  have e3 := e3 (e2.trans h)
  have hlen : (labelsL s.data.toList).length ≤ 61 := by
    unfold labelsL
    split
    · simp
    · have := splitL_len 46 s.data.toList; omega
  obtain ⟨r, h1, h2, h3, h4⟩ := nb_loops ((labelsL s.data.toList).map mkB) (by
    intro p hp
    obtain ⟨x, hx, rfl⟩ := List.mem_map.1 hp
    rw [mkB_size]
    unfold labelsL at hx
    split at hx
    · cases hx
    · have := splitL_part 46 _ x hx; omega) (by rw [List.length_map]; omega) _ 0 (⟨#[]⟩ : ByteArray) (Nat.zero_add _) (by rw [List.length_map]; show 0 + _ < _; omega)
  refine ⟨r, ?_, ?_, ?_⟩
  · refine Ev.congr (f := fun k => impl_labelBytes.l0 k (⟨#[]⟩ : ByteArray) ((labelsL s.data.toList).map mkB) (((labelsL s.data.toList).map mkB).length : Int) 0) (fun k => ?_) h1
    unfold impl_labelBytes.f
    rw [labelsOf_eq s (by omega)]
    rfl
  · refine Ev.congr (f := fun k => (spec_l1Labels.f k s).bind fun bt137 => (spec_l2Bytes.l0 k (⟨#[]⟩ : ByteArray) bt137.1 (bt137.1.length : Int) 0)) (fun k => rfl) (Ev.bind e1 ?_)
    rw [e3]
    exact h2
  · rw [h3, List.drop_zero, List.map_map]
    have e : ((fun p : ByteArray => 1 + p.size) ∘ mkB) = fun p => 1 + p.length := by funext p; show 1 + (mkB p).size = _; rw [mkB_size]
    rw [e]
    unfold labelsL
    by_cases h0 : s.data.toList = []
    · rw [if_pos h0, if_pos (by rw [hss, h0]; rfl)]; rfl
    · rw [if_neg h0, if_neg (by rw [hss]; have := List.length_pos_iff.2 h0; omega), split_sum, ← hss]
      show 0 + (s.size + 1) = _
      omega
end Go.Proofs.YtecmicedacppbaaDoor.Pure

-- F8
-- By my own call of the kit's print (wip/tools/pp.py).
namespace Go.Proofs.YtecmicedacppbaaDoor.P
open Go.RowKit Go.Proofs.YtecmicedacppbaaDoorW.PrintWords Go.Proofs.YtecmicedacppbaaDoorW.PrintLast Go.Proofs.YtecmicedacppbaaDoorW.PrintMore
attribute [local go_sem] max2_int min2_int max_two min_two max_three min_three max_four min_four
set_option linter.unusedVariables false
set_option linter.unusedSimpArgs false

/-! ### spec_DataBytes: function 8 -/
def spec_DataBytes.f (k : Nat) (a0 : Int) (a1 : ByteArray) : Option (ByteArray × Bool) := (spec_l3Bytes.f k a0 a1).bind fun bt159 => (if bt159.2 = true then (some (bt159.1, true)) else (some ((⟨#[]⟩ : ByteArray), false)))
theorem spec_DataBytes.mono : ∀ a0 a1 k, LeO (spec_DataBytes.f k a0 a1) (spec_DataBytes.f (k + 1) a0 a1) := by
  intro a0 a1 k
  unfold spec_DataBytes.f
  repeat' first
      | (with_reducible exact spec_l3Bytes.mono _ _ _)
      | (with_reducible exact LeO.refl _)
      | (with_reducible exact LeO.none _)
      | (with_reducible refine LeO.ite ?_ ?_)
      | (with_reducible refine LeO.bind ?_ (fun _ => ?_))
      | exact spec_l3Bytes.mono _ _ _
      | exact LeO.none _
      | refine LeO.ite ?_ ?_
      | refine LeO.bind ?_ (fun _ => ?_)
set_option maxHeartbeats 8000000 in
set_option maxRecDepth 100000 in
theorem spec_DataBytes.calls (k : Nat) (a0 : Int) (a1 : ByteArray) (r1 : ByteArray) (r2 : Bool) (w : World) (h : spec_DataBytes.f k a0 a1 = some (r1, r2)) :
    Calls Tryd.prog 8 #[.int .i64 a0, .string a1] w fun e w' => e = .returned (.tuple #[.string r1, .bool r2]) ∧ Below w.heap.size w w' := by
  have HB := Aside0.mk (Below.refl w.heap.size w)
  have H : ((spec_l3Bytes.f k a0 a1).bind fun bt159 => (if bt159.2 = true then (some (bt159.1, true)) else (some ((⟨#[]⟩ : ByteArray), false)))) = some (r1, r2) := h
  clear h
  replace H := Option.bind_eq_some_iff.mp H
  obtain ⟨⟨t159, t160⟩, A30, H⟩ := H
  replace H : (if t160 = true then (some (t159, true)) else (some ((⟨#[]⟩ : ByteArray), false))) = some (r1, r2) := H
  have A3 := Aside0.mk A30
  clear A30
  by_cases c4 : t160 = true
  · subst c4
    have H1 : (some (t159, true)) = some (r1, r2) := by rw [if_pos rfl] at H; exact H
    clear H
    have H := H1
    clear H1
    simp only [Option.some.injEq, Prod.mk.injEq] at H
    obtain ⟨rfl, rfl⟩ := H
    go_enter Tryd.func8, Tryd.ntmps8
    go_wp2_with (first | ((with_reducible refine gate_callee (f := 21) rfl ?_); refine goesL_ (some 11) rfl rfl Tryd.func21 (by kernel_rfl) rfl #[.int .i64 a0, .string a1] rfl (by (try simp only [List.map_toArray, List.map_cons, List.map_nil]); first | done | rfl | (simp only [List.length_drop, List.length_take]; rfl)) ?_; (with_reducible refine (spec_l3Bytes.calls k a0 a1 t159 true _ A3.out).mono ?_); rintro e w5 ⟨rfl, hb⟩; refine ⟨_, rfl, ?_⟩; have n0_ := Aside0.mk (below_step (by repeat (first | (with_reducible first | exact HB.out | apply below_alloc | apply pw_below_drewN | apply below_drew1) | exact HB.out)) hb); clear HB; have HB := n0_; clear n0_; (try clear hb); (try clear hb2); (try clear hk); (try clear hi)))
    go_ret2
    exact ⟨by first | rfl | (simp [errW_none, errW_some] <;> rfl) | (simp [*, errW_none, errW_some] <;> rfl), by repeat (first | (with_reducible first | exact HB.out | apply below_alloc | apply pw_below_drewN | apply below_drew1) | exact HB.out)⟩
  · replace c4 := Bool.eq_false_iff.mpr c4
    subst c4
    have H1 : (some ((⟨#[]⟩ : ByteArray), false)) = some (r1, r2) := by rw [if_neg (show ¬ (false = true) by decide)] at H; exact H
    clear H
    have H := H1
    clear H1
    simp only [Option.some.injEq, Prod.mk.injEq] at H
    obtain ⟨rfl, rfl⟩ := H
    go_enter Tryd.func8, Tryd.ntmps8
    go_wp2_with (first | ((with_reducible refine gate_callee (f := 21) rfl ?_); refine goesL_ (some 11) rfl rfl Tryd.func21 (by kernel_rfl) rfl #[.int .i64 a0, .string a1] rfl (by (try simp only [List.map_toArray, List.map_cons, List.map_nil]); first | done | rfl | (simp only [List.length_drop, List.length_take]; rfl)) ?_; (with_reducible refine (spec_l3Bytes.calls k a0 a1 t159 false _ A3.out).mono ?_); rintro e w6 ⟨rfl, hb⟩; refine ⟨_, rfl, ?_⟩; have n0_ := Aside0.mk (below_step (by repeat (first | (with_reducible first | exact HB.out | apply below_alloc | apply pw_below_drewN | apply below_drew1) | exact HB.out)) hb); clear HB; have HB := n0_; clear n0_; (try clear hb); (try clear hb2); (try clear hk); (try clear hi)))
    go_ret2
    exact ⟨by first | rfl | (simp [errW_none, errW_some] <;> rfl) | (simp [*, errW_none, errW_some] <;> rfl), by repeat (first | (with_reducible first | exact HB.out | apply below_alloc | apply pw_below_drewN | apply below_drew1) | exact HB.out)⟩

end Go.Proofs.YtecmicedacppbaaDoor.P

-- PureData
/- 'laws.FnExactDataBytes': what DataBytes returns, in the reference and in the program. Conditions: the texts' sizes. -/
namespace Go.Proofs.YtecmicedacppbaaDoor.Pure
open Go.RowKit Go.Proofs.YtecmicedacppbaaDoor.P Go.Proofs.YtecmicedacppbaaDoorW.PrintWords Go.Proofs.YtecmicedacppbaaDoorW.PrintLast Go.Proofs.YtecmicedacppbaaDoorW.PrintMore
set_option linter.unusedVariables false
set_option linter.unusedSimpArgs false
theorem split32_loop (s : ByteArray) (hs : s.size < 1099511627776) : ∀ (m i a : Nat) (acc : List ByteArray), i + m = s.size → a ≤ i → (∀ x ∈ (s.data.toList.drop a).take (i - a), x ≠ 32) → acc.length ≤ a →
    spec_l1Split.l0 (m + 1) s 32 acc (a : Int) (i : Int) = some (acc ++ (splitL 32 (s.data.toList.drop a)).map mkB)
  | 0, i, a, acc, him, hai, hx, hacc => by
    unfold spec_l1Split.l0
    rw [if_neg (by omega), if_pos (by omega), if_pos (by omega), if_pos (by omega)]
    rw [List.take_of_length_le (by rw [List.length_drop, ← size_len]; omega)] at hx
    rw [splitL_none 32 _ hx, Int.toNat_natCast, ext_end]
    rfl
  | m + 1, i, a, acc, him, hai, hx, hacc => by
    have hi : i < s.data.toList.length := by rw [← size_len]; omega
    unfold spec_l1Split.l0
    rw [if_pos (by omega), if_pos (by omega), bt_list s i hi, w64n (by omega)]
    have hd : s.data.toList.drop a = (s.data.toList.drop a).take (i - a) ++ s.data.toList[i] :: s.data.toList.drop (i + 1) := by
      conv => lhs; rw [← List.take_append_drop (i - a) (s.data.toList.drop a)]
      congr 1
      rw [List.drop_drop, show a + (i - a) = i by omega, List.drop_eq_getElem_cons hi]
    by_cases h : s.data.toList[i] = 32
    · rw [if_pos (by rw [h]; rfl), if_pos (by omega), if_pos (by omega), if_pos (by omega), if_pos (by omega), Int.toNat_natCast, Int.toNat_natCast, ext_mkB]
      rw [split32_loop s hs m (i + 1) (i + 1) _ (by omega) (by omega) (by simp) (by simp; omega)]
      conv => rhs; rw [hd, h, splitL_hit 32 _ _ hx]
      simp
    · rw [if_neg (by intro e; apply h; apply UInt8.toNat_inj.1; simpa using Int.ofNat.inj e)]
      refine split32_loop s hs m (i + 1) a acc (by omega) (by omega) ?_ hacc
      intro x hm
      rw [show i + 1 - a = (i - a) + 1 by omega, List.take_add_one] at hm
      rcases List.mem_append.1 hm with hm | hm
      · exact hx x hm
      · rw [List.getElem?_drop, show a + (i - a) = i by omega, List.getElem?_eq_getElem hi] at hm
        obtain rfl : x = s.data.toList[i] := by simpa using hm
        exact h

theorem split32_ev (s : ByteArray) (hs : s.size < 1099511627776) : Ev (fun k => spec_l1Split.f k s 32) ((splitL 32 s.data.toList).map mkB) := by
  refine Ev.of (fun k => spec_l1Split.mono _ _ _) (k := s.size + 1) ?_
  unfold spec_l1Split.f
  have := split32_loop s hs s.size 0 0 [] (by omega) (by omega) (by simp) (by simp)
  simpa using this

/-- The text of parts with dots between. -/
def unL : List (List UInt8) → List UInt8
  | [] => []
  | [p] => p
  | p :: q :: r => p ++ 46 :: unL (q :: r)
theorem good_all {s : List UInt8} (h : goodL s = true) : (labelsL s).length ≤ 8 ∧ ∀ x ∈ labelsL s, isLabelL x = true := by
  unfold goodL at h
  simp only [Bool.and_eq_true, decide_eq_true_eq, List.all_eq_true] at h
  exact h.2
theorem big1 (n : Int) : Ev (fun k => impl_big.f k n 1) (strOfNums [n % 256]) := by
  refine Ev.of (fun k => impl_big.mono _ _ _) (k := 2) ?_
  show impl_big.f 2 n 1 = _
  simp [impl_big.f, impl_big.l0, wrap64, shr, IntKind.bits]
theorem num1 (n : Int) : Ev (fun k => spec_l3Number.f k n 1) (strOfNums [n % 256]) := by
  refine Ev.of (fun k => spec_l3Number.mono _ _ _) (k := 2) ?_
  show spec_l3Number.f 2 n 1 = _
  simp [spec_l3Number.f, spec_l3Number.l0, wrap64]
theorem big2 (n : Int) : Ev (fun k => impl_big.f k n 2) (strOfNums [n / 256 % 256, n % 256]) := by
  refine Ev.of (fun k => impl_big.mono _ _ _) (k := 3) ?_
  show impl_big.f 3 n 2 = _
  simp [impl_big.f, impl_big.l0, wrap64, shr, IntKind.bits]
theorem num2 (n : Int) : Ev (fun k => spec_l3Number.f k n 2) (strOfNums [n / 256 % 256, n % 256]) := by
  refine Ev.of (fun k => spec_l3Number.mono _ _ _) (k := 3) ?_
  show spec_l3Number.f 3 n 2 = _
  simp [spec_l3Number.f, spec_l3Number.l0, wrap64]
theorem big4 (n : Int) : Ev (fun k => impl_big.f k n 4) (strOfNums [n / 16777216 % 256, n / 65536 % 256, n / 256 % 256, n % 256]) := by
  refine Ev.of (fun k => impl_big.mono _ _ _) (k := 5) ?_
  show impl_big.f 5 n 4 = _
  simp [impl_big.f, impl_big.l0, wrap64, shr, IntKind.bits]
theorem num4 (n : Int) : Ev (fun k => spec_l3Number.f k n 4) (strOfNums [n / 16777216 % 256, n / 65536 % 256, n / 256 % 256, n % 256]) := by
  refine Ev.of (fun k => spec_l3Number.mono _ _ _) (k := 5) ?_
  show spec_l3Number.f 5 n 4 = _
  simp [spec_l3Number.f, spec_l3Number.l0, wrap64, Int.ediv_ediv_of_nonneg]
/-- Is a text a name that data may have? -/
def targL (l : List UInt8) : Bool := decide (l ≠ []) && (goodL l && !l.contains 42)
theorem contains_eq (s : ByteArray) : strings_Contains.f s (⟨#[42]⟩ : ByteArray) = some (s.data.toList.contains 42) := by
  unfold strings_Contains.f strings_Index.f internal_stringslite_Index.f
  rw [if_pos (show (⟨#[42]⟩ : ByteArray).size = 1 from rfl)]
  simp only [Option.bind_some]
  rw [show List.headD (⟨#[42]⟩ : ByteArray).data.toList 0 = 42 from rfl]
  congr 1
  rcases place_or 42 s.data.toList with ⟨h1, h2⟩ | ⟨p, r, h1, h2, h3⟩
  · rw [h1]
    have : s.data.toList.contains 42 = false := by
      rw [Bool.eq_false_iff]
      intro h
      rw [List.contains_iff_mem] at h
      exact h2 42 h rfl
    rw [this]
    rfl
  · rw [h3]
    have : s.data.toList.contains 42 = true := by
      rw [List.contains_iff_mem, h1]
      simp
    rw [this]
    exact decide_eq_true (by omega)
theorem target_impl (s : ByteArray) : impl_isTarget.f s = some (targL s.data.toList) := by
  unfold impl_isTarget.f impl_GoodName.f targL
  rw [Lib.toList_data, contains_eq]
  by_cases h : s.data.toList = []
  · rw [if_pos h, decide_eq_false (by simp [h])]; rfl
  · rw [if_neg h, decide_eq_true h, Option.bind_some, Bool.true_and]
    cases goodL s.data.toList with
    | true => rfl
    | false => rfl
theorem split_mem : ∀ (l : List UInt8) (b : UInt8), b ≠ 46 → (b ∈ l ↔ ∃ p ∈ splitL 46 l, b ∈ p)
  | [], b, hb => by simp [splitL]
  | x :: xs, b, hb => by
    have ih := split_mem xs b hb
    obtain ⟨p, ps, hp⟩ := List.exists_cons_of_ne_nil (splitL_ne 46 xs)
    unfold splitL
    rw [hp] at ih ⊢
    by_cases h : x = 46
    · rw [if_pos h, List.mem_cons, ih]
      constructor
      · rintro (e | ⟨q, hq, hb2⟩)
        · exact absurd (e.trans h) hb
        · exact ⟨q, List.mem_cons_of_mem _ hq, hb2⟩
      · rintro ⟨q, hq, hb2⟩
        rcases List.mem_cons.1 hq with rfl | hq
        · cases hb2
        · exact .inr ⟨q, hq, hb2⟩
    · rw [if_neg h, List.mem_cons, ih]
      constructor
      · rintro (e | ⟨q, hq, hb2⟩)
        · exact ⟨x :: p, List.mem_cons_self, by rw [e]; exact List.mem_cons_self⟩
        · rcases List.mem_cons.1 hq with rfl | hq
          · exact ⟨x :: q, List.mem_cons_self, List.mem_cons_of_mem _ hb2⟩
          · exact ⟨q, List.mem_cons_of_mem _ hq, hb2⟩
      · rintro ⟨q, hq, hb2⟩
        rcases List.mem_cons.1 hq with rfl | hq
        · rcases List.mem_cons.1 hb2 with e | hb2
          · exact .inl e
          · exact .inr ⟨p, List.mem_cons_self, hb2⟩
        · exact .inr ⟨q, List.mem_cons_of_mem _ hq, hb2⟩
theorem star_label {s : List UInt8} (h : goodL s = true) : s.contains 42 = true ↔ ∃ p ∈ labelsL s, p = [42] := by
  rw [List.contains_iff_mem]
  unfold labelsL
  by_cases h0 : s = []
  · rw [if_pos h0, h0]; simp
  · rw [if_neg h0, split_mem s 42 (by decide)]
    have hg := (good_all h).2
    unfold labelsL at hg
    rw [if_neg h0] at hg
    constructor
    · rintro ⟨p, hp, h42⟩
      refine ⟨p, hp, ?_⟩
      have := hg p hp
      unfold isLabelL at this
      rw [Bool.or_eq_true, beq_iff_eq, Bool.and_eq_true, List.all_eq_true] at this
      rcases this with e | e
      · exact e
      · exact absurd (e.2 42 h42) (by decide)
    · rintro ⟨p, hp, rfl⟩
      exact ⟨_, hp, List.mem_cons_self⟩
theorem td_rd (l : List ByteArray) (i : Nat) (h : i < l.length) : rdOf ByteArray.empty l (i : Int) = l[i] := by
  unfold rdOf
  rw [Int.toNat_natCast, List.getD_eq_getElem?_getD, List.getElem?_eq_getElem h]
  rfl
theorem target_loop (s : ByteArray) (l : List ByteArray) (hl : l.length < 1099511627776) : ∀ (m i : Nat) (ok : Bool), i + m = l.length →
    Ev (fun k => spec_l3Target.l0 k s ok l (l.length : Int) (i : Int)) (ok && ((l.drop i).all (fun x => decide (x.data.toList ≠ [42])) && decide (s.data.toList ≠ [])))
  | 0, i, ok, him => by
    rw [List.drop_of_length_le (by omega), List.all_nil, Bool.true_and]
    refine Ev.step (f := fun _ => some (ok && decide (s.data.toList ≠ []))) (fun k => ?_) (Ev.now _)
    show spec_l3Target.l0 (k + 1) s ok l (l.length : Int) (i : Int) = _
    conv => lhs; unfold spec_l3Target.l0
    rw [if_neg (by omega), Lib.toList_data]
    cases ok with
    | true =>
      rw [if_pos rfl, Bool.true_and]
      congr 1
      by_cases h : s.data.toList = []
      · rw [h]; simp
      · rw [decide_eq_true h, bne_iff_ne.mpr h]
    | false => rfl
  | m + 1, i, ok, him => by
    have hi : i < l.length := by omega
    have ih := target_loop s l hl m (i + 1) (ok && decide (l[i].data.toList ≠ [42])) (by omega)
    have e : (ok && decide (l[i].data.toList ≠ [42]) && ((l.drop (i + 1)).all (fun x => decide (x.data.toList ≠ [42])) && decide (s.data.toList ≠ []))) = (ok && ((l.drop i).all (fun x => decide (x.data.toList ≠ [42])) && decide (s.data.toList ≠ []))) := by
      rw [List.drop_eq_getElem_cons hi]
      rw [List.all_cons]
      cases ok
      · rfl
      · rw [Bool.true_and, Bool.true_and, Bool.and_assoc]
    rw [e] at ih
    refine Ev.step (fun k => ?_) ih
    show spec_l3Target.l0 (k + 1) s ok l (l.length : Int) (i : Int) = _
    conv => lhs; unfold spec_l3Target.l0
    rw [if_pos (by omega), if_pos (by omega), if_pos (by omega), td_rd l i hi, w64n (by omega), Lib.toList_data]
    cases ok with
    | true =>
      rw [if_pos rfl, Bool.true_and]
      congr 1
      by_cases h : l[i].data.toList = [42]
      · rw [h]; simp
      · rw [decide_eq_true h, bne_iff_ne.mpr h]
    | false => rfl
theorem Ev.unique {α : Type} {g : Nat → Option α} {r r' : α} (h : Ev g r) (h' : Ev g r') : r = r' := by
  obtain ⟨K, h⟩ := h
  obtain ⟨K', h'⟩ := h'
  have h1 := h (max K K') (by omega)
  rw [h' (max K K') (by omega)] at h1
  exact (Option.some.inj h1).symm
theorem labels_short (s : ByteArray) (hs : s.size ≤ 1048576) (r : List ByteArray × Bool) (e : Ev (fun k => spec_l1Labels.f k s) r) : r.1.length < 1099511627776 := by
  by_cases h : s.data.toList = []
  · have h2 : Ev (fun k => spec_l1Labels.f k s) ([], true) := Ev.congr (fun k => by unfold spec_l1Labels.f; rw [if_pos (by rw [Lib.toList_data]; exact h)]) (Ev.now _)
    rw [Ev.unique e h2]
    simp
  · have hlen : ((splitL 46 s.data.toList).map mkB).length ≤ s.size + 1 := by rw [List.length_map, size_len]; exact splitL_len _ _
    have h2 : Ev (fun k => spec_l1Labels.f k s) (labsR s ((splitL 46 s.data.toList).map mkB) 0) := by
      refine Ev.congr (f := fun k => (spec_l1Split.f k s 46).bind fun t => spec_l1Labels.l0 k s t t (t.length : Int) 0) (fun k => ?_) (Ev.bind (split_ev s (by omega)) ?_)
      · show spec_l1Labels.f k s = _
        unfold spec_l1Labels.f
        rw [if_neg (by rw [Lib.toList_data]; exact h)]
      · refine labels_loop s _ ?_ (by omega) _ 0 (Nat.zero_add _)
        intro p hp
        obtain ⟨q, hq, rfl⟩ := List.mem_map.1 hp
        have := splitL_part 46 _ q hq
        rw [mkB_size]
        rw [← size_len] at this
        omega
    rw [Ev.unique e h2]
    unfold labsR
    split
    · split
      · show ((splitL 46 s.data.toList).map mkB).length < _; omega
      · show ((splitL 46 s.data.toList).map mkB).length < _; omega
    · simp
theorem target_spec (s : ByteArray) (hs : s.size ≤ 1048576) : Ev (fun k => spec_l3Target.f k s) (targL s.data.toList) := by
  obtain ⟨r, e1, e2, e3⟩ := labels_ev s (by omega)
  have hlen : r.1.length < 1099511627776 := by
    by_cases h : r.2 = true
    · rw [e3 h, List.length_map]
      have := (good_all (e2.symm.trans h)).1
      omega
    · exact labels_short s hs r e1
  refine Ev.congr (fun k => rfl) (Ev.bind e1 ?_)
  have := target_loop s r.1 hlen r.1.length 0 r.2 (by omega)
  rw [List.drop_zero] at this
  have et : (r.2 && (r.1.all (fun x => decide (x.data.toList ≠ [42])) && decide (s.data.toList ≠ []))) = targL s.data.toList := by
    unfold targL
    rw [e2]
    cases hg : goodL s.data.toList with
    | false => simp
    | true =>
      rw [e3 (e2.trans hg), Bool.true_and, Bool.true_and, Bool.and_comm]
      congr 1
      have h1 := star_label hg
      rw [Bool.eq_iff_iff, List.all_eq_true, Bool.not_eq_true', Bool.eq_false_iff]
      constructor
      · intro h2 h3
        obtain ⟨p, hp, rfl⟩ := h1.1 h3
        exact of_decide_eq_true (h2 (mkB [42]) (List.mem_map.2 ⟨_, hp, rfl⟩)) (mkB_data _)
      · intro h2 x hx
        refine decide_eq_true fun h3 => ?_
        obtain ⟨p, hp, rfl⟩ := List.mem_map.1 hx
        rw [mkB_data] at h3
        exact h2 (h1.2 ⟨p, hp, h3⟩)
  rw [et] at this
  exact this
end Go.Proofs.YtecmicedacppbaaDoor.Pure
