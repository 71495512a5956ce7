/- FnExactRecordsOf: part 22 of 28 of my texts for this claim, joined; the theorem stands in the last. Conditions: none beyond the statement's. -/
import Derived.Test.YtiegkjimpclmaaaGreatDoorMFnExactRecordsOfx18
import Derived.Test.YtiegkjimpclmaaaGreatDoorMFnExactRecordsOfx19
namespace Go.Proofs.YtiegkjimpclmaaaGreatDoor.P
open Go.RowKit Go.Proofs.YtiegkjimpclmaaaGreatDoorW.PrintWords Go.Proofs.YtiegkjimpclmaaaGreatDoorW.PrintLast Go.Proofs.YtiegkjimpclmaaaGreatDoorW.PrintMore
attribute [local go_sem] max2_int min2_int max_two min_two max_three min_three max_four min_four
set_option linter.unusedVariables false
set_option linter.unusedSimpArgs false
def impl_GoodRecord.f (k : Nat) (a0_0 : ByteArray) (a0_1 : Int) (a0_2 : Int) (a0_3 : ByteArray) : Option (Bool) := (impl_GoodName.f a0_0).bind fun t398 => (if t398 = true then ((impl_within.f a0_2 0 100000).bind fun t399 => (if t399 = true then (if (a0_3.size : Int) > 100 then (some false) else ((impl_DataBytes.f k a0_1 a0_3).bind fun bt400 => (some bt400.2))) else (some false))) else (some false))
set_option maxHeartbeats 8000000 in
set_option maxRecDepth 100000 in
theorem impl_GoodRecord.calls (k : Nat) (a0_0 : ByteArray) (a0_1 : Int) (a0_2 : Int) (a0_3 : ByteArray) (r : Bool) (w : World) (h : impl_GoodRecord.f k a0_0 a0_1 a0_2 a0_3 = some r) (hv_ : Vars w := by exact vv_) :
 Calls Tryz.prog 29 #[.agg #[.string a0_0, .int .i64 a0_1, .int .i64 a0_2, .string a0_3]] w fun e w' => e = .returned (.bool r) ∧ Below w.heap.size w w' := by
 have HV_ := a0_ hv_
 clear hv_
 have hu45 := Tryz.underlying45
 have HB := a0_ (Below.refl w.heap.size w)
 have H := h
 clear h
 unfold impl_GoodRecord.f at H
 obtain ⟨t398, A20, H⟩ := Option.bind_eq_some_iff.mp H
 have A2 := a0_ A20
 clear A20
 by_cases c3 : t398 = true
 case neg =>
  replace c3 := Bool.eq_false_iff.mpr c3
  subst c3
  rw [if_neg (show ¬ (false = true) by decide)] at H
  obtain rfl := Option.some.inj H
  go_enter Tryz.func29, Tryz.ntmps29
  go_wp2_with (first | ((with_reducible refine gate_dst (N := 1) rfl ?_); (try (refine gate_guard (by rfl) ?_; dsimp only)); refine boxS_ 1 #[.string a0_0, .int .i64 a0_1, .int .i64 a0_2, .string a0_3] 45 (fun gb397 hg w21 hbox hb => ?_); have n0_ := a0_ (below_step bq0_ hb); have n1_ := a0_ (hbox); have n2_ := a0_ (gw_ hg : w.heap.size ≤ gb397); have n3_ := n2_; clear HB; have HB := n0_; have BK397 := n1_; have GW397 := n2_; have GE397 := n3_; clear n0_ n1_ n2_ n3_; clear hb hbox hg; obtain ⟨z22_0, z22_1, z22_2, z22_3, q22_0, q22_1, q22_2, q22_3⟩ := bk4_ BK397.out) | ((with_reducible refine gate_callee (f := 83) rfl ?_); refine goesL_ (some 7) rfl rfl Tryz.func83 (by kernel_rfl) rfl #[.string a0_0] rfl argsS_ ?_; (with_reducible refine (impl_GoodName.calls a0_0 false _ A2.out).mono ?_); rintro e w23 ⟨rfl, hb⟩; refine ⟨_, rfl, ?_⟩; replace BK397 := a0_ (bkB_ BK397 hb); replace HB := a0_ (below_step bq1_ hb); clear hb))
  go_ret
  exact ⟨rr_, bq1_⟩
 subst c3
 rw [if_pos rfl] at H
 obtain ⟨t399, A40, H⟩ := Option.bind_eq_some_iff.mp H
 have A4 := a0_ A40
 clear A40
 by_cases c5 : t399 = true
 case neg =>
  replace c5 := Bool.eq_false_iff.mpr c5
  subst c5
  rw [if_neg (show ¬ (false = true) by decide)] at H
  obtain rfl := Option.some.inj H
  go_enter Tryz.func29, Tryz.ntmps29
  go_wp2_with (first | ((with_reducible refine gate_dst (N := 1) rfl ?_); (try (refine gate_guard (by rfl) ?_; dsimp only)); refine boxS_ 1 #[.string a0_0, .int .i64 a0_1, .int .i64 a0_2, .string a0_3] 45 (fun gb397 hg w17 hbox hb => ?_); have n0_ := a0_ (below_step bq0_ hb); have n1_ := a0_ (hbox); have n2_ := a0_ (gw_ hg : w.heap.size ≤ gb397); have n3_ := n2_; clear HB; have HB := n0_; have BK397 := n1_; have GW397 := n2_; have GE397 := n3_; clear n0_ n1_ n2_ n3_; clear hb hbox hg; obtain ⟨z18_0, z18_1, z18_2, z18_3, q18_0, q18_1, q18_2, q18_3⟩ := bk4_ BK397.out) | ((with_reducible refine gate_callee (f := 83) rfl ?_); refine goesL_ (some 7) rfl rfl Tryz.func83 (by kernel_rfl) rfl #[.string a0_0] rfl argsS_ ?_; (with_reducible refine (impl_GoodName.calls a0_0 true _ A2.out).mono ?_); rintro e w19 ⟨rfl, hb⟩; refine ⟨_, rfl, ?_⟩; replace BK397 := a0_ (bkB_ BK397 hb); replace HB := a0_ (below_step bq1_ hb); clear hb; obtain ⟨z20_0, z20_1, z20_2, z20_3, q20_0, q20_1, q20_2, q20_3⟩ := bk4_ BK397.out) | (go_at_call 84; (with_reducible refine (impl_within.calls a0_2 0 100000 false _ A4.out).mono ?_); rintro e w' ⟨rfl, ⟨nd, rfl⟩⟩))
  go_ret
  exact ⟨rr_, bq1_⟩
 subst c5
 rw [if_pos rfl] at H
 by_cases c6 : (a0_3.size : Int) > 100
 case pos =>
  rw [if_pos c6] at H
  have c6b0 := decide_eq_true c6
  have c6b1 : decide (100 < a0_3.size) = true := decide_eq_true (by omega)
  clear c6
  obtain rfl := Option.some.inj H
  go_enter Tryz.func29, Tryz.ntmps29
  go_wp2_with (first | ((with_reducible refine gate_dst (N := 1) rfl ?_); (try (refine gate_guard (by rfl) ?_; dsimp only)); refine boxS_ 1 #[.string a0_0, .int .i64 a0_1, .int .i64 a0_2, .string a0_3] 45 (fun gb397 hg w7 hbox hb => ?_); have n0_ := a0_ (below_step bq0_ hb); have n1_ := a0_ (hbox); have n2_ := a0_ (gw_ hg : w.heap.size ≤ gb397); have n3_ := n2_; clear HB; have HB := n0_; have BK397 := n1_; have GW397 := n2_; have GE397 := n3_; clear n0_ n1_ n2_ n3_; clear hb hbox hg; obtain ⟨z8_0, z8_1, z8_2, z8_3, q8_0, q8_1, q8_2, q8_3⟩ := bk4_ BK397.out) | ((with_reducible refine gate_callee (f := 83) rfl ?_); refine goesL_ (some 7) rfl rfl Tryz.func83 (by kernel_rfl) rfl #[.string a0_0] rfl argsS_ ?_; (with_reducible refine (impl_GoodName.calls a0_0 true _ A2.out).mono ?_); rintro e w9 ⟨rfl, hb⟩; refine ⟨_, rfl, ?_⟩; replace BK397 := a0_ (bkB_ BK397 hb); replace HB := a0_ (below_step bq1_ hb); clear hb; obtain ⟨z10_0, z10_1, z10_2, z10_3, q10_0, q10_1, q10_2, q10_3⟩ := bk4_ BK397.out) | (go_at_call 84; (with_reducible refine (impl_within.calls a0_2 0 100000 true _ A4.out).mono ?_); rintro e w' ⟨rfl, ⟨nd, rfl⟩⟩))
  go_ret
  exact ⟨rr_, bq1_⟩
 rw [if_neg c6] at H
 have c6b0 := decide_eq_false c6
 have c6b1 : decide (100 < a0_3.size) = false := decide_eq_false (by omega)
 clear c6
 obtain ⟨⟨t400, t401⟩, A110, H⟩ := Option.bind_eq_some_iff.mp H
 have A11 := a0_ A110
 clear A110
 obtain rfl := Option.some.inj H
 go_enter Tryz.func29, Tryz.ntmps29
 go_wp2_with (first | ((with_reducible refine gate_dst (N := 1) rfl ?_); (try (refine gate_guard (by rfl) ?_; dsimp only)); refine boxS_ 1 #[.string a0_0, .int .i64 a0_1, .int .i64 a0_2, .string a0_3] 45 (fun gb397 hg w12 hbox hb => ?_); have n0_ := a0_ (below_step bq0_ hb); have n1_ := a0_ (hbox); have n2_ := a0_ (gw_ hg : w.heap.size ≤ gb397); have n3_ := n2_; clear HB; have HB := n0_; have BK397 := n1_; have GW397 := n2_; have GE397 := n3_; clear n0_ n1_ n2_ n3_; clear hb hbox hg; obtain ⟨z13_0, z13_1, z13_2, z13_3, q13_0, q13_1, q13_2, q13_3⟩ := bk4_ BK397.out) | ((with_reducible refine gate_callee (f := 83) rfl ?_); refine goesL_ (some 7) rfl rfl Tryz.func83 (by kernel_rfl) rfl #[.string a0_0] rfl argsS_ ?_; (with_reducible refine (impl_GoodName.calls a0_0 true _ A2.out).mono ?_); rintro e w14 ⟨rfl, hb⟩; refine ⟨_, rfl, ?_⟩; replace BK397 := a0_ (bkB_ BK397 hb); replace HB := a0_ (below_step bq1_ hb); clear hb; obtain ⟨z15_0, z15_1, z15_2, z15_3, q15_0, q15_1, q15_2, q15_3⟩ := bk4_ BK397.out) | (go_at_call 84; (with_reducible refine (impl_within.calls a0_2 0 100000 true _ A4.out).mono ?_); rintro e w' ⟨rfl, ⟨nd, rfl⟩⟩) | ((with_reducible refine gate_callee (f := 31) rfl ?_); refine goesL_ (some 26) rfl rfl Tryz.func31 (by kernel_rfl) rfl #[.int .i64 a0_1, .string a0_3] rfl argsS_ ?_; (with_reducible refine (impl_DataBytes.calls k a0_1 a0_3 t400 t401 _ A11.out).mono ?_); rintro e w16 ⟨rfl, hb⟩; refine ⟨_, rfl, ?_⟩; replace BK397 := a0_ (bkB_ BK397 hb); replace HB := a0_ (below_step bq1_ hb); clear hb))
 go_ret
 exact ⟨rr_, bq1_⟩
def impl_dataBytes.f (k : Nat) (a0 : Int) (a1 : ByteArray) : Option (ByteArray) := (impl_DataBytes.f k a0 a1).bind fun bt402 => (if bt402.2 = true then (some bt402.1) else (some (⟨#[]⟩ : ByteArray)))
set_option maxHeartbeats 8000000 in
set_option maxRecDepth 100000 in
theorem impl_dataBytes.calls (k : Nat) (a0 : Int) (a1 : ByteArray) (r : ByteArray) (w : World) (h : impl_dataBytes.f k a0 a1 = some r) (hv_ : Vars w := by exact vv_) :
 Calls Tryz.prog 141 #[.int .i64 a0, .string a1] w fun e w' => e = .returned (.string r) ∧ Below w.heap.size w w' := by
 have HV_ := a0_ hv_
 clear hv_
 have HB := a0_ (Below.refl w.heap.size w)
 have H := h
 clear h
 unfold impl_dataBytes.f at H
 obtain ⟨⟨t402, t403⟩, A30, H⟩ := Option.bind_eq_some_iff.mp H
 have A3 := a0_ A30
 clear A30
 by_cases c4 : t403 = true
 case pos =>
  subst c4
  rw [if_pos rfl] at H
  obtain rfl := Option.some.inj H
  go_enter Tryz.func141, Tryz.ntmps141
  go_wp2_with (first | ((with_reducible refine gate_callee (f := 31) rfl ?_); refine goesL_ (some 10) rfl rfl Tryz.func31 (by kernel_rfl) rfl #[.int .i64 a0, .string a1] rfl argsS_ ?_; (with_reducible refine (impl_DataBytes.calls k a0 a1 t402 true _ A3.out).mono ?_); rintro e w5 ⟨rfl, hb⟩; refine ⟨_, rfl, ?_⟩; replace HB := a0_ (below_step bq0_ hb); clear hb))
  go_ret
  exact ⟨rr_, bq0_⟩
 replace c4 := Bool.eq_false_iff.mpr c4
 subst c4
 rw [if_neg (show ¬ (false = true) by decide)] at H
 obtain rfl := Option.some.inj H
 go_enter Tryz.func141, Tryz.ntmps141
 go_wp2_with (first | ((with_reducible refine gate_callee (f := 31) rfl ?_); refine goesL_ (some 10) rfl rfl Tryz.func31 (by kernel_rfl) rfl #[.int .i64 a0, .string a1] rfl argsS_ ?_; (with_reducible refine (impl_DataBytes.calls k a0 a1 t402 false _ A3.out).mono ?_); rintro e w6 ⟨rfl, hb⟩; refine ⟨_, rfl, ?_⟩; replace HB := a0_ (below_step bq0_ hb); clear hb))
 go_ret
 exact ⟨rr_, bq0_⟩
end Go.Proofs.YtiegkjimpclmaaaGreatDoor.P
namespace Go.Proofs.YtiegkjimpclmaaaGreatDoor.Pure
open Go.RowKit Go.Proofs.YtiegkjimpclmaaaGreatDoor.P Go.Proofs.YtiegkjimpclmaaaGreatDoorW.PrintWords Go.Proofs.YtiegkjimpclmaaaGreatDoorW.PrintLast
set_option linter.unusedVariables false
set_option linter.unusedSimpArgs false
theorem nb_rd (l : List ByteArray) (i : Nat) (h : i < l.length) : rdOf ByteArray.empty l (i : Int) = l[i] := by
 unfold rdOf
 rw [Int.toNat_natCast, List.getD_eq_getElem?_getD, List.getElem?_eq_getElem h]
 rfl
theorem nb_loops (parts : List ByteArray) (hp : ∀ p ∈ parts, p.size ≤ 1000) (hl : parts.length ≤ 1000) : ∀ (m i : Nat) (acc : ByteArray), i + m = parts.length → acc.size + m * 1024 < 1099511627776 →
 ∃ r, Ev (fun k => impl_labelBytes.l0 k acc parts (parts.length : Int) (i : Int)) r ∧ Ev (fun k => spec_l2Bytes.l0 k acc parts (parts.length : Int) (i : Int)) (r ++ (⟨#[0]⟩ : ByteArray)) ∧ r.size = acc.size + ((parts.drop i).map fun p => 1 + p.size).sum ∧ r.size < 1099511627776
 | 0, i, acc, him, ha => by
  refine ⟨acc, Ev.step (f := fun _ => some acc) (fun k => ?_) (Ev.now _), Ev.step (f := fun _ => some (acc ++ (⟨#[0]⟩ : ByteArray))) (fun k => ?_) (Ev.now _), by rw [List.drop_of_length_le (by omega)]; rfl, by omega⟩
  · show impl_labelBytes.l0 (k + 1) acc parts (parts.length : Int) (i : Int) = _
    unfold impl_labelBytes.l0
    rw [if_neg (by omega)]
  · show spec_l2Bytes.l0 (k + 1) acc parts (parts.length : Int) (i : Int) = _
    unfold spec_l2Bytes.l0
    rw [if_neg (by omega), if_pos (by omega)]
 | m + 1, i, acc, him, ha => by
  have hi : i < parts.length := by omega
  have hs : ∀ v : Int, (strOfNums [v]).size = 1 := fun v => by rw [strOfNums_size]; rfl
  have hpi := hp _ (List.getElem_mem hi)
  obtain ⟨r, h1, h2, h3, h4⟩ := nb_loops parts hp hl m (i + 1) (acc ++ (strOfNums [((parts[i].size : Int)) % 256] ++ parts[i])) (by omega) (by
   rw [ByteArray.size_append, ByteArray.size_append, hs]; omega)
  refine ⟨r, Ev.step (fun k => ?_) h1, Ev.step (fun k => ?_) h2, ?_, h4⟩
  · show impl_labelBytes.l0 (k + 1) acc parts (parts.length : Int) (i : Int) = _
    conv => lhs; unfold impl_labelBytes.l0
    rw [if_pos (by omega), if_pos (by omega), if_pos (by omega), nb_rd _ _ hi, Option.bind_some, if_pos (by rw [hs]; omega), if_pos (by rw [ByteArray.size_append, hs]; omega), w64n (by omega)]
  · show spec_l2Bytes.l0 (k + 1) acc parts (parts.length : Int) (i : Int) = _
    conv => lhs; unfold spec_l2Bytes.l0
    rw [if_pos (by omega), if_pos (by omega), if_pos (by omega), nb_rd _ _ hi, Option.bind_some, if_pos (by rw [hs]; omega), if_pos (by rw [ByteArray.size_append, hs]; omega), w64n (by omega)]
  · rw [h3, ByteArray.size_append, ByteArray.size_append, hs, List.drop_eq_getElem_cons hi, List.map_cons, List.sum_cons]
    omega
theorem split_sum : ∀ l : List UInt8, ((splitL 46 l).map fun p => 1 + p.length).sum = l.length + 1
 | [] => rfl
 | x :: xs => by
  have ih := split_sum xs
  unfold splitL
  split
  · rw [List.map_cons, List.sum_cons, ih, List.length_cons, List.length_nil]
    omega
  · cases hs : splitL 46 xs with
    | nil => exact absurd hs (splitL_ne 46 xs)
    | cons p ps =>
     rw [hs, List.map_cons, List.sum_cons] at ih
     rw [List.map_cons, List.sum_cons, List.length_cons, List.length_cons]
     omega
theorem nb_both (s : ByteArray) (h : goodL s.data.toList = true) : ∃ r, Ev (fun k => impl_labelBytes.f k s) r ∧ Ev (fun k => spec_l2Bytes.f k s) (r ++ (⟨#[0]⟩ : ByteArray)) ∧ r.size = (if s.size = 0 then 0 else s.size + 1) := by
 have hg := good_size h
 have hss := size_len s
 obtain ⟨q, e1, e2, e3⟩ := labels_ev s (by omega)
 have e3 := e3 (e2.trans h)
 have hlen : (labelsL s.data.toList).length ≤ 61 := by
  unfold labelsL
  split
  · simp
  · have := splitL_len 46 s.data.toList; omega
 obtain ⟨r, h1, h2, h3, h4⟩ := nb_loops ((labelsL s.data.toList).map mkB) (by
  intro p hp
  obtain ⟨x, hx, rfl⟩ := List.mem_map.1 hp
  rw [mkB_size]
  unfold labelsL at hx
  split at hx
  · cases hx
  · have := splitL_part 46 _ x hx; omega) (by rw [List.length_map]; omega) _ 0 (⟨#[]⟩ : ByteArray) (Nat.zero_add _) (by rw [List.length_map]; show 0 + _ < _; omega)
 refine ⟨r, ?_, ?_, ?_⟩
 · refine Ev.congr (f := fun k => impl_labelBytes.l0 k (⟨#[]⟩ : ByteArray) ((labelsL s.data.toList).map mkB) (((labelsL s.data.toList).map mkB).length : Int) 0) (fun k => ?_) h1
   unfold impl_labelBytes.f
   rw [labelsOf_eq s (by omega)]
   rfl
 · refine Ev.congr (f := fun k => (spec_l1Labels.f k s).bind fun bt137 => (spec_l2Bytes.l0 k (⟨#[]⟩ : ByteArray) bt137.1 (bt137.1.length : Int) 0)) (fun k => rfl) (Ev.bind e1 ?_)
   rw [e3]
   exact h2
 · rw [h3, List.drop_zero, List.map_map]
   have e : ((fun p : ByteArray => 1 + p.size) ∘ mkB) = fun p => 1 + p.length := by funext p; show 1 + (mkB p).size = _; rw [mkB_size]
   rw [e]
   unfold labelsL
   by_cases h0 : s.data.toList = []
   · rw [if_pos h0, if_pos (by rw [hss, h0]; rfl)]; rfl
   · rw [if_neg h0, if_neg (by rw [hss]; have := List.length_pos_iff.2 h0; omega), split_sum, ← hss]
     show 0 + (s.size + 1) = _
     omega
theorem swap_ends (p m q : List ByteArray) (a b : ByteArray) : ((p ++ (a :: (m ++ [b])) ++ q).set p.length b).set (p.length + m.length + 1) a = (p ++ [b]) ++ m ++ (a :: q) := by
 have h1 : (p ++ (a :: (m ++ [b])) ++ q).set p.length b = p ++ b :: (m ++ b :: q) := by simp [List.set_append]
 have h2 : (p ++ b :: (m ++ b :: q)) = (p ++ b :: m) ++ b :: q := by simp
 have h3 : p.length + m.length + 1 = (p ++ b :: m).length := by simp; omega
 rw [h1, h2, h3, List.set_append_right _ _ (Nat.le_refl _), Nat.sub_self]
 simp
theorem get_first (p m q : List ByteArray) (a b : ByteArray) : rdOf ByteArray.empty (p ++ (a :: (m ++ [b])) ++ q) (p.length : Int) = a := by
 unfold rdOf
 simp [List.getD_eq_getElem?_getD]
theorem get_last (p m q : List ByteArray) (a b : ByteArray) : rdOf ByteArray.empty (p ++ (a :: (m ++ [b])) ++ q) ((p.length + m.length + 1 : Nat) : Int) = b := by
 have h2 : p ++ (a :: (m ++ [b])) ++ q = (p ++ a :: m) ++ b :: q := by simp
 have h3 : p.length + m.length + 1 = (p ++ a :: m).length := by simp; omega
 unfold rdOf
 rw [Int.toNat_natCast, h2, h3]
 simp [List.getD_eq_getElem?_getD]
theorem reverse_loop : ∀ (n : Nat) (p m q : List ByteArray), m.length ≤ n → p.length + m.length + q.length < 1099511627776 →
 Ev (fun k => slices_Reverse_string_string.l0 k (p ++ m ++ q) (p.length : Int) ((p.length : Int) + (m.length : Int) - 1)) (p ++ m.reverse ++ q)
 | n, p, [], q, hn, hb => by
  refine Ev.step (f := fun _ => some _) (fun k => ?_) (Ev.now _)
  show slices_Reverse_string_string.l0 (k + 1) (p ++ [] ++ q) (p.length : Int) ((p.length : Int) + (0 : Int) - 1) = _
  unfold slices_Reverse_string_string.l0
  rw [if_neg (by omega)]
  rfl
 | n, p, a :: t, q, hn, hb => by
  rcases List.eq_nil_or_concat t with rfl | ⟨m, b, rfl⟩
  · refine Ev.step (f := fun _ => some _) (fun k => ?_) (Ev.now _)
    show slices_Reverse_string_string.l0 (k + 1) (p ++ [a] ++ q) (p.length : Int) ((p.length : Int) + (1 : Int) - 1) = _
    unfold slices_Reverse_string_string.l0
    rw [if_neg (by omega)]
    rfl
  · rw [List.concat_eq_append] at hn hb ⊢
    have hl : (a :: (m ++ [b])).length = m.length + 2 := by simp
    rw [hl] at hn hb ⊢
    match n, hn with
    | n + 1, hn =>
     have ih := reverse_loop n (p ++ [b]) m (a :: q) (by omega) (by simp; omega)
     have e : p ++ (a :: (m ++ [b])).reverse ++ q = (p ++ [b]) ++ m.reverse ++ (a :: q) := by simp
     rw [e]
     refine Ev.step (fun k => ?_) ih
     show slices_Reverse_string_string.l0 (k + 1) (p ++ (a :: (m ++ [b])) ++ q) (p.length : Int) ((p.length : Int) + ((m.length + 2 : Nat) : Int) - 1) = _
     have hj : (p.length : Int) + ((m.length + 2 : Nat) : Int) - 1 = ((p.length + m.length + 1 : Nat) : Int) := by omega
     have hlen : (p ++ (a :: (m ++ [b])) ++ q).length = p.length + m.length + 2 + q.length := by simp; omega
     rw [hj]
     conv => lhs; unfold slices_Reverse_string_string.l0
     rw [hlen, if_pos (by omega), if_pos (by omega), if_pos (by omega), if_pos (by omega), if_pos (by omega), get_first, get_last, Int.toNat_natCast, Int.toNat_natCast, swap_ends]
     rw [w64n (by omega), show wrap64 (((p.length + m.length + 1 : Nat) : Int) - 1) = ((p.length + m.length : Nat) : Int) by unfold wrap64; omega]
     have e1 : (p ++ [b]).length = p.length + 1 := by simp
     rw [e1]
     congr 1
     omega
theorem reverse_ev (l : List ByteArray) (h : l.length < 1099511627776) : Ev (fun k => slices_Reverse_string_string.f k l) l.reverse := by
 have := reverse_loop l.length [] l [] (Nat.le_refl _) (by simpa using h)
 simp only [List.nil_append, List.append_nil, List.length_nil] at this
 refine Ev.congr (fun k => ?_) this
 unfold slices_Reverse_string_string.f
 congr 1
 unfold wrap64
 show _ = (0 : Int) + (l.length : Int) - 1
 omega
def cmpP (a b : ByteArray) : Int := if Op.bytesLess a.toList b.toList = true then -1 else (if Op.bytesLess b.toList a.toList = true then 1 else 0)
def cmpL : List ByteArray → List ByteArray → Int
 | [], [] => 0
 | [], _ :: _ => -1
 | _ :: _, [] => 1
 | a :: x, b :: y => if cmpP a b = 0 then cmpL x y else cmpP a b
theorem cmp_eq (a b : ByteArray) : cmp_Compare_string.f a b = some (cmpP a b) := by
 unfold cmp_Compare_string.f cmp_isNaN_string.f cmpP
 simp only [bne_self_eq_false, Option.bind_some]
 rw [if_neg (by simp), if_neg (by simp)]
 split
 · rfl
 · split <;> rfl
theorem rd_at (l : List ByteArray) (i : Nat) (h : i < l.length) : rdOf ByteArray.empty l (i : Int) = l[i] := by
 unfold rdOf
 rw [Int.toNat_natCast, List.getD_eq_getElem?_getD, List.getElem?_eq_getElem h]
 rfl
theorem compare_loop (x y : List ByteArray) (hx : x.length < 1099511627776) (hy : y.length < 1099511627776) : ∀ (m i : Nat), i + m = x.length → i ≤ y.length →
 Ev (fun k => slices_Compare_string_string.l0 k x y x (x.length : Int) (i : Int)) (cmpL (x.drop i) (y.drop i))
 | 0, i, h, hiy => by
  refine Ev.step (f := fun _ => some _) (fun k => ?_) (Ev.now _)
  show slices_Compare_string_string.l0 (k + 1) x y x (x.length : Int) (i : Int) = _
  unfold slices_Compare_string_string.l0
  rw [if_neg (by omega), List.drop_of_length_le (by omega)]
  by_cases hl : (x.length : Int) < (y.length : Int)
  · rw [if_pos hl, List.drop_eq_getElem_cons (show i < y.length by omega)]
    rfl
  · rw [if_neg hl, List.drop_of_length_le (by omega)]
    rfl
 | m + 1, i, h, hiy => by
  by_cases hl : (i : Int) ≥ (y.length : Int)
  · refine Ev.step (f := fun _ => some _) (fun k => ?_) (Ev.now _)
    show slices_Compare_string_string.l0 (k + 1) x y x (x.length : Int) (i : Int) = _
    unfold slices_Compare_string_string.l0
    rw [if_pos (by omega), if_pos (by omega), if_pos (by omega), if_pos hl, List.drop_of_length_le (show y.length ≤ i by omega), List.drop_eq_getElem_cons (show i < x.length by omega)]
    rfl
  · have ih := compare_loop x y hx hy m (i + 1) (by omega) (by omega)
    have hc : cmpL (x.drop i) (y.drop i) = if cmpP x[i] y[i] = 0 then cmpL (x.drop (i + 1)) (y.drop (i + 1)) else cmpP x[i] y[i] := by
     rw [List.drop_eq_getElem_cons (show i < x.length by omega), List.drop_eq_getElem_cons (show i < y.length by omega)]
     rfl
    refine Ev.step (f := fun k => if cmpP x[i] y[i] = 0 then slices_Compare_string_string.l0 k x y x (x.length : Int) ((i + 1 : Nat) : Int) else some (cmpP x[i] y[i])) (fun k => ?_) ?_
    · show slices_Compare_string_string.l0 (k + 1) x y x (x.length : Int) (i : Int) = _
      conv => lhs; unfold slices_Compare_string_string.l0
      rw [if_pos (by omega), if_pos (by omega), if_pos (by omega), if_neg hl, if_pos (by omega), rd_at x i (by omega), rd_at y i (by omega), cmp_eq, w64n (by omega)]
      rfl
    · rw [hc]
      by_cases h0 : cmpP x[i] y[i] = 0
      · simp only [if_pos h0]; exact ih
      · simp only [if_neg h0]; exact Ev.now _
theorem compare_ev (x y : List ByteArray) (hx : x.length < 1099511627776) (hy : y.length < 1099511627776) : Ev (fun k => slices_Compare_string_string.f k x y) (cmpL x y) := by
 have := compare_loop x y hx hy x.length 0 (by omega) (by omega)
 exact this
theorem speccomp_loop (x y : List ByteArray) (hx : x.length < 1099511627776) (hy : y.length < 1099511627776) : ∀ (m i : Nat), i + m = x.length → i ≤ y.length →
 Ev (fun k => spec_l1Compare.l0 k x y ((i + 1 : Nat) : Int)) (cmpL (x.reverse.drop i) (y.reverse.drop i))
 | m, i, h, hiy => by
  have hj : ∀ k, spec_l1Compare.l0 (k + 1) x y ((i + 1 : Nat) : Int) = spec_l1Compare.j1 k x y ((i + 1 : Nat) : Int) (decide (i + 1 ≤ x.length ∧ i + 1 ≤ y.length)) := by
   intro k
   conv => lhs; unfold spec_l1Compare.l0
   by_cases hl : ((i + 1 : Nat) : Int) ≤ (x.length : Int)
   · rw [if_pos hl]
     congr 1
     rw [decide_eq_decide]; omega
   · rw [if_neg hl]
     congr 1
     rw [eq_comm, decide_eq_false_iff_not]; omega
  refine Ev.step hj ?_
  by_cases hd : i + 1 ≤ x.length ∧ i + 1 ≤ y.length
  · obtain ⟨m, rfl⟩ : ∃ m', m = m' + 1 := ⟨m - 1, by omega⟩
    have hrx : i < x.reverse.length := by rw [List.length_reverse]; omega
    have hry : i < y.reverse.length := by rw [List.length_reverse]; omega
    have ih := speccomp_loop x y hx hy m (i + 1) (by omega) (by omega)
    have hwx : wrap64 ((x.length : Int) - ((i + 1 : Nat) : Int)) = ((x.length - 1 - i : Nat) : Int) := by unfold wrap64; omega
    have hwy : wrap64 ((y.length : Int) - ((i + 1 : Nat) : Int)) = ((y.length - 1 - i : Nat) : Int) := by unfold wrap64; omega
    have gx : rdOf ByteArray.empty x ((x.length - 1 - i : Nat) : Int) = x.reverse[i] := by rw [rd_at _ _ (by omega), List.getElem_reverse]
    have gy : rdOf ByteArray.empty y ((y.length - 1 - i : Nat) : Int) = y.reverse[i] := by rw [rd_at _ _ (by omega), List.getElem_reverse]
    have hc : cmpL (x.reverse.drop i) (y.reverse.drop i) = if cmpP x.reverse[i] y.reverse[i] = 0 then cmpL (x.reverse.drop (i + 1)) (y.reverse.drop (i + 1)) else cmpP x.reverse[i] y.reverse[i] := by
     rw [List.drop_eq_getElem_cons hrx, List.drop_eq_getElem_cons hry]
     rfl
    refine Ev.step (f := fun k => if cmpP x.reverse[i] y.reverse[i] = 0 then spec_l1Compare.l0 k x y ((i + 1 + 1 : Nat) : Int) else some (cmpP x.reverse[i] y.reverse[i])) (fun k => ?_) ?_
    · rw [decide_eq_true hd]
      conv => lhs; unfold spec_l1Compare.j1
      rw [if_pos rfl, hwx, hwy, if_pos (by omega), if_pos (by omega), if_pos (by omega), if_pos (by omega), gx, gy, w64n (by omega)]
      unfold cmpP
      by_cases h1 : Op.bytesLess x.reverse[i].toList y.reverse[i].toList = true
      · rw [if_pos h1, if_pos h1]; rfl
      · rw [if_neg h1, if_neg h1]
        by_cases h2 : Op.bytesLess y.reverse[i].toList x.reverse[i].toList = true
        · rw [if_pos h2, if_pos h2]; rfl
        · rw [if_neg h2, if_neg h2]; rfl
    · rw [hc]
      by_cases h0 : cmpP x.reverse[i] y.reverse[i] = 0
      · simp only [if_pos h0]; exact ih
      · simp only [if_neg h0]; exact Ev.now _
  · refine Ev.step (f := fun _ => some _) (fun k => ?_) (Ev.now _)
    rw [decide_eq_false hd]
    conv => lhs; unfold spec_l1Compare.j1
    rw [if_neg (by simp)]
    have hcase : ∀ (p q : List ByteArray), (p = [] ∨ q = []) → cmpL p q = if p.length < q.length then -1 else if p.length > q.length then 1 else 0 := by
     intro p q hpq
     cases p <;> cases q <;> first | rfl | (simp at hpq)| (simp [cmpL])
    rw [hcase _ _ (by
     by_cases h1 : i + 1 ≤ x.length
     · right; apply List.drop_of_length_le; rw [List.length_reverse]; omega
     · left; apply List.drop_of_length_le; rw [List.length_reverse]; omega)]
    simp only [List.length_drop, List.length_reverse]
    by_cases h1 : (x.length : Int) < (y.length : Int)
    · rw [if_pos h1, if_pos (by omega)]
    · by_cases h2 : (x.length : Int) > (y.length : Int)
      · rw [if_neg h1, if_pos h2, if_neg (by omega), if_pos (by omega)]
      · rw [if_neg h1, if_neg h2, if_neg (by omega), if_neg (by omega)]
 termination_by m => m
def ordL (a b : List UInt8) : Int := cmpL ((labelsL a).map mkB).reverse ((labelsL b).map mkB).reverse
theorem labs_len (s : ByteArray) (hs : s.size ≤ 1048576) : ((labelsL s.data.toList).map mkB).length ≤ 1048577 := by
 rw [List.length_map]
 unfold labelsL
 split
 · simp
 · have := splitL_len 46 s.data.toList; rw [← size_len] at this; omega
theorem implComp_ev (a b : ByteArray) (ha : a.size ≤ 1048576) (hb : b.size ≤ 1048576) : Ev (fun k => impl_compareNames.f k a b) (ordL a.data.toList b.data.toList) := by
 have h1 := labs_len a ha
 have h2 := labs_len b hb
 refine Ev.congr (f := fun k => (slices_Reverse_string_string.f k ((labelsL a.data.toList).map mkB)).bind fun t151 => (slices_Reverse_string_string.f k ((labelsL b.data.toList).map mkB)).bind fun t152 => (slices_Compare_string_string.f k t151 t152).bind fun t153 => some t153) (fun k => ?_) ?_
 · unfold impl_compareNames.f
   rw [labelsOf_eq a (by omega), labelsOf_eq b (by omega)]
   rfl
 · refine Ev.bind (reverse_ev _ (by omega)) (Ev.bind (reverse_ev _ (by omega)) (Ev.bind (compare_ev _ _ ?_ ?_) (Ev.now _)))
   · rw [List.length_reverse]; omega
   · rw [List.length_reverse]; omega
theorem specComp_ev (a b : ByteArray) (ha : a.size ≤ 1048576) (hb : b.size ≤ 1048576) (ga : goodL a.data.toList = true) (gb : goodL b.data.toList = true) : Ev (fun k => spec_l1Compare.f k a b) (ordL a.data.toList b.data.toList) := by
 obtain ⟨r1, e1, e2, e3⟩ := labels_ev a (by omega)
 obtain ⟨r2, f1, f2, f3⟩ := labels_ev b (by omega)
 have h1 := labs_len a ha
 have h2 := labs_len b hb
 refine Ev.congr (fun k => rfl) (Ev.bind e1 (Ev.bind f1 ?_))
 rw [e3 (e2.trans ga), f3 (f2.trans gb)]
 exact speccomp_loop _ _ (by omega) (by omega) _ 0 (Nat.zero_add _) (by omega)
end Go.Proofs.YtiegkjimpclmaaaGreatDoor.Pure
namespace Go.Proofs.YtiegkjimpclmaaaGreatDoor.P
open Go.RowKit Go.Proofs.YtiegkjimpclmaaaGreatDoorW.PrintWords Go.Proofs.YtiegkjimpclmaaaGreatDoorW.PrintLast Go.Proofs.YtiegkjimpclmaaaGreatDoorW.PrintMore
attribute [local go_sem] max2_int min2_int max_two min_two max_three min_three max_four min_four
set_option linter.unusedVariables false
set_option linter.unusedSimpArgs false
def impl_compareRecords.f (k : Nat) (a0_0 : ByteArray) (a0_1 : Int) (a0_2 : Int) (a0_3 : ByteArray) (a1_0 : ByteArray) (a1_1 : Int) (a1_2 : Int) (a1_3 : ByteArray) : Option (Int) := (impl_compareKeys.f k a0_0 a0_1 a0_2 a0_3 a1_0 a1_1 a1_2 a1_3).bind fun t406 => ((impl_dataBytes.f k a0_1 a0_3).bind fun t407 => ((impl_dataBytes.f k a1_1 a1_3).bind fun t408 => ((strings_Compare.f t407 t408).bind fun t409 => ((cmp_Compare_int.f a0_2 a1_2).bind fun t410 => ((cmp_Or_int.f k (([t406, t409, t410] : List Int))).bind fun t414 => (some t414))))))
def impl_compareRecords.T1 : Bool × List (List Nat × List Nat) := (true, [([], []), ([], []), ([0, 1], [0, 1]), ([], []), ([3], [3]), ([], []), ([5], [5]), ([4, 6, 2], [4, 6]), ([], []), ([8], [8]), ([], []), ([10], [10]), ([9, 11, 7], [9, 11]), ([7, 12, 12], [7, 12]), ([], []), ([14], [14]), ([], []), ([16], [16]), ([15, 17, 13], [15, 17]), ([2, 13, 18], [2, 13, 18]), ([19, 18], [19]), ([20, 20, 0, 1, 2, 3, 4, 5, 6, 7, 8, 9, 10, 11, 12, 13, 14, 15, 16, 17, 18, 19, 20], [20])])
def impl_compareRecords.B1 : List Nat := [0, 0, 3, 0, 8, 0, 32, 127, 0, 256, 0, 1024, 4095, 8191, 0, 16384, 0, 65536, 262143, 524287, 1048575, 2097151]
theorem impl_compareRecords.tab1 : rtab .any (opsOf Tryz.f77 1) = impl_compareRecords.T1 := by kernel_rfl
theorem impl_compareRecords.bits1 : waitsOk impl_compareRecords.T1.2 impl_compareRecords.B1 = true := by kernel_rfl
set_option maxHeartbeats 8000000 in
set_option maxRecDepth 100000 in
theorem impl_compareRecords.calls (k : Nat) (a0_0 : ByteArray) (a0_1 : Int) (a0_2 : Int) (a0_3 : ByteArray) (a1_0 : ByteArray) (a1_1 : Int) (a1_2 : Int) (a1_3 : ByteArray) (r : Int) (w : World) (h : impl_compareRecords.f k a0_0 a0_1 a0_2 a0_3 a1_0 a1_1 a1_2 a1_3 = some r) (hv_ : Vars w := by exact vv_) :
 Calls Tryz.prog 77 #[.agg #[.string a0_0, .int .i64 a0_1, .int .i64 a0_2, .string a0_3], .agg #[.string a1_0, .int .i64 a1_1, .int .i64 a1_2, .string a1_3]] w fun e w' => e = .returned (.int .i64 r) ∧ Below w.heap.size w w' := by
 have HV_ := a0_ hv_
 clear hv_
 have hu45 := Tryz.underlying45
 have HB := a0_ (Below.refl w.heap.size w)
 have H := h
 clear h
 unfold impl_compareRecords.f at H
 obtain ⟨t406, A30, H⟩ := Option.bind_eq_some_iff.mp H
 have A3 := a0_ A30
 clear A30
 obtain ⟨t407, A40, H⟩ := Option.bind_eq_some_iff.mp H
 have A4 := a0_ A40
 clear A40
 obtain ⟨t408, A50, H⟩ := Option.bind_eq_some_iff.mp H
 have A5 := a0_ A50
 clear A50
 obtain ⟨t409, A60, H⟩ := Option.bind_eq_some_iff.mp H
 have A6 := a0_ A60
 clear A60
 obtain ⟨t410, A70, H⟩ := Option.bind_eq_some_iff.mp H
 have A7 := a0_ A70
 clear A70
 obtain ⟨y411, hy411⟩ : ∃ y_ : List Int, y_ = (([t406, t409, t410] : List Int)) := ⟨_, rfl⟩
 replace H : ((cmp_Or_int.f k y411).bind fun t414 => (some t414)) = some r := by first | (rw [hy411]; with_reducible exact H) | (have H2_ := (Option.bind_some _ _).symm.trans H; rw [hy411]; with_reducible exact H2_) | (have H2_ := (Option.bind_some _ _).symm.trans H; with_reducible exact H2_) | with_reducible exact H | (rw [hy411]; exact H) | exact H
 have Ny411 := a0_ hy411
 clear hy411
 obtain ⟨t414, A80, H⟩ := Option.bind_eq_some_iff.mp H
 have A8 := a0_ A80
 clear A80
 obtain rfl := Option.some.inj H
 go_enter Tryz.func77, Tryz.ntmps77
 try go_wp2_with (first | ((with_reducible refine gate_dst (N := 2) rfl ?_); refine boxS_ 2 #[.string a0_0, .int .i64 a0_1, .int .i64 a0_2, .string a0_3] 45 (fun gb404 hg w9 hbox hb => ?_); have n0_ := a0_ (below_step bq0_ hb); have n1_ := a0_ (hbox); have n2_ := a0_ (gw_ hg : w.heap.size ≤ gb404); have n3_ := n2_; clear HB; have HB := n0_; have BK404 := n1_; have GW404 := n2_; have GE404 := n3_; clear n0_ n1_ n2_ n3_; clear hb hbox hg) | ((with_reducible refine gate_dst (N := 3) rfl ?_); refine boxS_ 3 #[.string a1_0, .int .i64 a1_1, .int .i64 a1_2, .string a1_3] 45 (fun gb405 hg w10 hbox hb => ?_); have n0_ := a0_ (bkB_ BK404 hb); have n1_ := a0_ (below_step bq1_ hb); have n2_ := a0_ (hbox); have n3_ := a0_ (gw_ hg (below_size bq1_) : w.heap.size ≤ gb405); have n4_ := n3_; have n5_ := a0_ ((by rw [hg]; exact Nat.ne_of_lt (blk_lt (g := gb404) (o := .cells #[.string a0_0, .int .i64 a0_1, .int .i64 a0_2, .string a0_3] 45 (0, 0)) (kB_ BK404.out)) : gb404 ≠ gb405)); have n6_ := a0_ ((by rw [hg]; exact Nat.ne_of_gt (blk_lt (g := gb404) (o := .cells #[.string a0_0, .int .i64 a0_1, .int .i64 a0_2, .string a0_3] 45 (0, 0)) (kB_ BK404.out)) : gb405 ≠ gb404)); clear BK404; clear HB; have BK404 := n0_; have HB := n1_; have BK405 := n2_; have GW405 := n3_; have GE405 := n4_; have NB404_405 := n5_; have NB405_404 := n6_; clear n0_ n1_ n2_ n3_ n4_ n5_ n6_; clear hb hbox hg))
 replace BK404 := a0_ (blk_drew BK404.out)
 replace BK405 := a0_ (blk_drew BK405.out)
 replace HB := a0_ (below_drew1 HB.out)
 refine start_ (n := 22) (S := fun w' => w'.cell? ⟨gb404, 0, none⟩ = some (.string a0_0) ∧ w'.cell? ⟨gb404, 1, none⟩ = some (.int .i64 a0_1) ∧ w'.cell? ⟨gb404, 2, none⟩ = some (.int .i64 a0_2) ∧ w'.cell? ⟨gb404, 3, none⟩ = some (.string a0_3) ∧ w'.cell? ⟨gb405, 0, none⟩ = some (.string a1_0) ∧ w'.cell? ⟨gb405, 1, none⟩ = some (.int .i64 a1_1) ∧ w'.cell? ⟨gb405, 2, none⟩ = some (.int .i64 a1_2) ∧ w'.cell? ⟨gb405, 3, none⟩ = some (.string a1_3)) (ds := []) #[false, false, false, false, false, false, false, false, false, false, false, false, false, false, false, false, false, false, false, false, false, false] (by kernel_rfl) rfl rfl ⟨(blk_cell BK404.out 0).trans rfl, (blk_cell BK404.out 1).trans rfl, (blk_cell BK404.out 2).trans rfl, (blk_cell BK404.out 3).trans rfl, (blk_cell BK405.out 0).trans rfl, (blk_cell BK405.out 1).trans rfl, (blk_cell BK405.out 2).trans rfl, (blk_cell BK405.out 3).trans rfl⟩ (fun hHeld => ?_); refine with_tabW impl_compareRecords.tab1 impl_compareRecords.bits1 (fun HT_ HW_ => ?_)
 generalize w10.drew = w11 at BK404 BK405 HB hHeld ⊢
 refine pureS_ 3 (some 8) ?_
 refine pureS_ 5 (some 10) ?_
 refine pureS_ 8 (some 13) ?_
 refine pureS_ 10 (some 15) ?_
 refine pureS_ 14 (some 19) ?_
 refine pureS_ 16 (some 21) ?_
 refine takeS_ 0 (some 5) ?_
 refine takeS_ 1 (some 6) ?_
 refine takeS_ 4 (some 9) ?_
 refine takeS_ 6 (some 11) ?_
 refine takeS_ 9 (some 14) ?_
 refine takeS_ 11 (some 16) ?_
 refine takeS_ 15 (some 20) ?_
 refine takeS_ 17 (some 22) ?_
 refine oneS_ 2 (some 7) (fun K hK => ?_)
 refine goes_ Tryz.func65 (by kernel_rfl) rfl #[.agg #[.string a0_0, .int .i64 a0_1, .int .i64 a0_2, .string a0_3], .agg #[.string a1_0, .int .i64 a1_1, .int .i64 a1_2, .string a1_3]] (by rfl) rfl rfl argsS_ ?_
 with_reducible refine (impl_compareKeys.calls k a0_0 a0_1 a0_2 a0_3 a1_0 a1_1 a1_2 a1_3 t406 _ A3.out).mono ?_
 rintro e w12 ⟨rfl, hb⟩
 refine ⟨_, rfl, ?_⟩
 replace BK404 := a0_ (bkB_ BK404 hb)
 replace BK405 := a0_ (bkB_ BK405 hb)
 replace HB := a0_ (below_step bq1_ hb)
 (try clear hb)
 (try clear hb2)
 (try clear hk)
 (try clear hi)
 refine hK.out _ _ ⟨(blk_cell BK404.out 0).trans rfl, (blk_cell BK404.out 1).trans rfl, (blk_cell BK404.out 2).trans rfl, (blk_cell BK404.out 3).trans rfl, (blk_cell BK405.out 0).trans rfl, (blk_cell BK405.out 1).trans rfl, (blk_cell BK405.out 2).trans rfl, (blk_cell BK405.out 3).trans rfl⟩ (fun hHeld => ?_)
 clear hK K
 refine normS_ ?_
 refine oneS_ 7 (some 12) (fun K hK => ?_)
 refine goes_ Tryz.func141 (by kernel_rfl) rfl #[.int .i64 a0_1, .string a0_3] (by rfl) rfl rfl argsS_ ?_
 with_reducible refine (impl_dataBytes.calls k a0_1 a0_3 t407 _ A4.out).mono ?_
 rintro e w13 ⟨rfl, hb⟩
 refine ⟨_, rfl, ?_⟩
 replace BK404 := a0_ (bkB_ BK404 hb)
 replace BK405 := a0_ (bkB_ BK405 hb)
 replace HB := a0_ (below_step bq1_ hb)
 (try clear hb)
 (try clear hb2)
 (try clear hk)
 (try clear hi)
 refine hK.out _ _ ⟨(blk_cell BK404.out 0).trans rfl, (blk_cell BK404.out 1).trans rfl, (blk_cell BK404.out 2).trans rfl, (blk_cell BK404.out 3).trans rfl, (blk_cell BK405.out 0).trans rfl, (blk_cell BK405.out 1).trans rfl, (blk_cell BK405.out 2).trans rfl, (blk_cell BK405.out 3).trans rfl⟩ (fun hHeld => ?_)
 clear hK K
 refine normS_ ?_
 refine oneS_ 12 (some 17) (fun K hK => ?_)
 refine goes_ Tryz.func141 (by kernel_rfl) rfl #[.int .i64 a1_1, .string a1_3] (by rfl) rfl rfl argsS_ ?_
 with_reducible refine (impl_dataBytes.calls k a1_1 a1_3 t408 _ A5.out).mono ?_
 rintro e w14 ⟨rfl, hb⟩
 refine ⟨_, rfl, ?_⟩
 replace BK404 := a0_ (bkB_ BK404 hb)
 replace BK405 := a0_ (bkB_ BK405 hb)
 replace HB := a0_ (below_step bq1_ hb)
 (try clear hb)
 (try clear hb2)
 (try clear hk)
 (try clear hi)
 refine hK.out _ _ ⟨(blk_cell BK404.out 0).trans rfl, (blk_cell BK404.out 1).trans rfl, (blk_cell BK404.out 2).trans rfl, (blk_cell BK404.out 3).trans rfl, (blk_cell BK405.out 0).trans rfl, (blk_cell BK405.out 1).trans rfl, (blk_cell BK405.out 2).trans rfl, (blk_cell BK405.out 3).trans rfl⟩ (fun hHeld => ?_)
 clear hK K
 refine normS_ ?_
 refine oneS_ 13 (some 18) (fun K hK => ?_)
 refine goes_ Tryz.func140 (by kernel_rfl) rfl #[.string t407, .string t408] (by rfl) rfl rfl argsS_ ?_
 with_reducible refine (strings_Compare.calls t407 t408 t409 _ A6.out).mono ?_
 rintro e w' ⟨rfl, ⟨nd, rfl⟩⟩
 refine ⟨_, rfl, ?_⟩
 refine hK.out _ _ ⟨(blk_cell BK404.out 0).trans rfl, (blk_cell BK404.out 1).trans rfl, (blk_cell BK404.out 2).trans rfl, (blk_cell BK404.out 3).trans rfl, (blk_cell BK405.out 0).trans rfl, (blk_cell BK405.out 1).trans rfl, (blk_cell BK405.out 2).trans rfl, (blk_cell BK405.out 3).trans rfl⟩ (fun hHeld => ?_)
 clear hK K
 refine normS_ ?_
 refine oneS_ 18 (some 23) (fun K hK => ?_)
 refine goes_ Tryz.func133 (by kernel_rfl) rfl #[.int .i64 a0_2, .int .i64 a1_2] (by rfl) rfl rfl argsS_ ?_
 with_reducible refine (cmp_Compare_int.calls a0_2 a1_2 t410 _ A7.out).mono ?_
 rintro e w' ⟨rfl, ⟨nd, rfl⟩⟩
 refine ⟨_, rfl, ?_⟩
 refine hK.out _ _ ⟨(blk_cell BK404.out 0).trans rfl, (blk_cell BK404.out 1).trans rfl, (blk_cell BK404.out 2).trans rfl, (blk_cell BK404.out 3).trans rfl, (blk_cell BK405.out 0).trans rfl, (blk_cell BK405.out 1).trans rfl, (blk_cell BK405.out 2).trans rfl, (blk_cell BK405.out 3).trans rfl⟩ (fun hHeld => ?_)
 clear hK K
 refine normS_ ?_
 refine oneS_ 19 (some 24) (fun K hK => ?_)
 refine Kd.R_lit_step (Kd.int .i64) _ 3 ?hg (N := 24) ?hd (xs := ([t406, t409, t410] : List Int)) (inner := [.int .i64 t406, .int .i64 t409, .int .i64 t410]) (ok := fun _ => True) (okp := fun _ => True) ?hr ?hp (fun _ hk => hk) trivial (Below.refl _ _) (Nat.le_refl _) (by simp) ?_; (case hd => rfl); (case hg => rfl); (case hr => first | (go_simp; done) | (go_simp; rfl)); (case hp => exact (Reps.one (show Kd.M (Kd.int .i64) _ _ _ t406 [.int .i64 t406] from rfl) (Reps.one (show Kd.M (Kd.int .i64) _ _ _ t409 [.int .i64 t409] from rfl) (Reps.one (show Kd.M (Kd.int .i64) _ _ _ t410 [.int .i64 t410] from rfl) (Reps.none _ _)))))
 intro v412 w15 ho16 hb hg_ hnew_
 clear hg_ hnew_
 (first | rw [← Ny411.out] at ho16 | (simp only [Int.reduceToNat] at ho16; rw [← Ny411.out] at ho16))
 have HO413 := a0_ (Kd.R_lower ho16 (below_size bq1_))
 replace BK404 := a0_ (bkB_ BK404 hb)
 replace BK405 := a0_ (bkB_ BK405 hb)
 replace HB := a0_ (below_step bq1_ hb)
 clear hb ho16
 obtain ⟨Ao17, co17, eo17⟩ := Kd.R_slice HO413.out
 (first | subst eo17 | (injection eo17 with f1_ f2_ f3_; have f4_ := f1_.symm; have f5_ := f3_.symm; clear f1_ f2_ f3_; subst f4_; subst f5_))
 refine hK.out _ _ ⟨(blk_cell BK404.out 0).trans rfl, (blk_cell BK404.out 1).trans rfl, (blk_cell BK404.out 2).trans rfl, (blk_cell BK404.out 3).trans rfl, (blk_cell BK405.out 0).trans rfl, (blk_cell BK405.out 1).trans rfl, (blk_cell BK405.out 2).trans rfl, (blk_cell BK405.out 3).trans rfl⟩ (fun hHeld => ?_)
 clear hK K
 refine normS_ ?_
 refine oneS_ 20 (some 25) (fun K hK => ?_)
 refine goes_ Tryz.func131 (by kernel_rfl) rfl #[.slice Ao17 y411.length co17] (by rfl) rfl rfl argsS_ ?_
 with_reducible refine (cmp_Or_int.calls k _ _ y411 t414 _ ?side1 ?side2 A8.out).mono ?_
 (case side1 => exact kD_ (Kd.R_reads' HO413.out).2.2)
 (case side2 => exact (Kd.R_reads' HO413.out).2.1)
 rintro e w' ⟨rfl, ⟨nd, rfl⟩⟩
 refine ⟨_, rfl, ?_⟩
 refine hK.out _ _ ⟨(blk_cell BK404.out 0).trans rfl, (blk_cell BK404.out 1).trans rfl, (blk_cell BK404.out 2).trans rfl, (blk_cell BK404.out 3).trans rfl, (blk_cell BK405.out 0).trans rfl, (blk_cell BK405.out 1).trans rfl, (blk_cell BK405.out 2).trans rfl, (blk_cell BK405.out 3).trans rfl⟩ (fun hHeld => ?_)
 clear hK K
 refine normS_ ?_
 refine pureS_ 21 (some 4) ?_
 refine done_ (done_of HT_.out (by kernel_rfl)) ?_
 try go_wp2
 go_ret
 exact ⟨rr_, bq1_⟩
end Go.Proofs.YtiegkjimpclmaaaGreatDoor.P
