/- FnSets: part 8 of 15 of my texts for this claim, joined; the theorem stands in the last. Conditions: none beyond the statement's. -/
import Derived.Test.YtiegkjimpclmaaaGreatDoorMFnSetsx6
import Derived.Lib.AtoiTie
import Derived.Lib.ItoaMem
open Go.RowKit Go.Proofs.YtiegkjimpclmaaaGreatDoorW.PrintWords Go.Proofs.YtiegkjimpclmaaaGreatDoorW.PrintLast Go.Proofs.YtiegkjimpclmaaaGreatDoorW.PrintMore
set_option linter.unusedVariables false
set_option linter.unusedSimpArgs false
set_option maxHeartbeats 8000000
set_option maxRecDepth 100000
namespace Go.Proofs.YtiegkjimpclmaaaGreatDoor.Pure
open Go.Proofs.YtiegkjimpclmaaaGreatDoor.P
theorem w64n {n : Nat} (h : n < 4611686018427387904) : wrap64 ((n : Int) + 1) = ((n + 1 : Nat) : Int) := by unfold wrap64; omega
theorem bt_list (s : ByteArray) (i : Nat) (h : i < s.data.toList.length) : bt s (i : Int) = ((s.data.toList[i]'h).toNat : Int) := by
 unfold bt
 have h2 : (i : Int).toNat < s.size := by rw [size_len]; omega
 rw [dif_pos h2]
 rfl
theorem ext_mkB (s : ByteArray) (a b : Nat) : s.extract a b = mkB ((s.data.toList.drop a).take (b - a)) := by
 apply ext_data
 rw [mkB_data]
 simp [ByteArray.data_extract]
theorem ext_end (s : ByteArray) (a : Nat) : s.extract a s.size = mkB (s.data.toList.drop a) := by
 rw [ext_mkB, List.take_of_length_le (by rw [List.length_drop, size_len]; omega)]
theorem split_loop (s : ByteArray) (hs : s.size < 1099511627776) : ∀ (m i a : Nat) (acc : List ByteArray), i + m = s.size → a ≤ i → (∀ x ∈ (s.data.toList.drop a).take (i - a), x ≠ 46) → acc.length ≤ a →
 spec_l1Split.l0 (m + 1) s 46 acc (a : Int) (i : Int) = some (acc ++ (splitL 46 (s.data.toList.drop a)).map mkB)
 | 0, i, a, acc, him, hai, hx, hacc => by
  unfold spec_l1Split.l0
  rw [if_neg (by omega), if_pos (by omega), if_pos (by omega), if_pos (by omega)]
  rw [List.take_of_length_le (by rw [List.length_drop, ← size_len]; omega)] at hx
  rw [splitL_none 46 _ hx, Int.toNat_natCast, ext_end]
  rfl
 | m + 1, i, a, acc, him, hai, hx, hacc => by
  have hi : i < s.data.toList.length := by rw [← size_len]; omega
  unfold spec_l1Split.l0
  rw [if_pos (by omega), if_pos (by omega), bt_list s i hi, w64n (by omega)]
  have hd : s.data.toList.drop a = (s.data.toList.drop a).take (i - a) ++ s.data.toList[i] :: s.data.toList.drop (i + 1) := by
   conv => lhs; rw [← List.take_append_drop (i - a) (s.data.toList.drop a)]
   congr 1
   rw [List.drop_drop, show a + (i - a) = i by omega, List.drop_eq_getElem_cons hi]
  by_cases h : s.data.toList[i] = 46
  · rw [if_pos (by rw [h]; rfl), if_pos (by omega), if_pos (by omega), if_pos (by omega), if_pos (by omega), Int.toNat_natCast, Int.toNat_natCast, ext_mkB]
    rw [split_loop s hs m (i + 1) (i + 1) _ (by omega) (by omega) (by simp) (by simp; omega)]
    conv => rhs; rw [hd, h, splitL_hit 46 _ _ hx]
    simp
  · rw [if_neg (by intro e; apply h; apply UInt8.toNat_inj.1; simpa using Int.ofNat.inj e)]
    refine split_loop s hs m (i + 1) a acc (by omega) (by omega) ?_ hacc
    intro x hm
    rw [show i + 1 - a = (i - a) + 1 by omega, List.take_add_one] at hm
    rcases List.mem_append.1 hm with hm | hm
    · exact hx x hm
    · rw [List.getElem?_drop, show a + (i - a) = i by omega, List.getElem?_eq_getElem hi] at hm
      obtain rfl : x = s.data.toList[i] := by simpa using hm
      exact h
theorem split_ev (s : ByteArray) (hs : s.size < 1099511627776) : Ev (fun k => spec_l1Split.f k s 46) ((splitL 46 s.data.toList).map mkB) := by
 refine Ev.of (fun k => spec_l1Split.mono _ _ _) (k := s.size + 1) ?_
 unfold spec_l1Split.f
 have := split_loop s hs s.size 0 0 [] (by omega) (by omega) (by simp) (by simp)
 simpa using this
theorem within_spec (n a b : Int) : spec_l1In.f n a b = some (decide (a ≤ n ∧ n ≤ b)) := by
 unfold spec_l1In.f
 by_cases h : n ≥ a
 · rw [if_pos h]; congr 1; rw [decide_eq_decide]; omega
 · rw [if_neg h]; congr 1; rw [eq_comm, decide_eq_false_iff_not]; omega
theorem label_loop (s : ByteArray) (hs : s.size < 1099511627776) : ∀ (m i : Nat), i + m = s.size →
 spec_l1Label.l0 (m + 1) s (i : Int) = some ((s.data.toList.drop i).all labelByte && decide (1 ≤ s.data.toList.length ∧ s.data.toList.length ≤ 20))
 | 0, i, him => by
  unfold spec_l1Label.l0
  rw [if_neg (by omega), within_spec, List.drop_of_length_le (by rw [← size_len]; omega)]
  simp only [Option.bind_some, List.all_nil, Bool.true_and]
  congr 1
  rw [decide_eq_decide, ← size_len]
  omega
 | m + 1, i, him => by
  have hi : i < s.data.toList.length := by rw [← size_len]; omega
  have ih := label_loop s hs m (i + 1) (by omega)
  unfold spec_l1Label.l0
  rw [if_pos (by omega), if_pos (by omega), w64n (by omega), ih, bt_list s i hi, List.drop_eq_getElem_cons hi, List.all_cons]
  generalize (List.drop (i + 1) s.data.toList).all labelByte = rest
  generalize decide (1 ≤ s.data.toList.length ∧ s.data.toList.length ≤ 20) = len
  generalize s.data.toList[i] = b
  have hb : labelByte b = decide ((97 ≤ (b.toNat : Int) ∧ (b.toNat : Int) ≤ 122) ∨ (48 ≤ (b.toNat : Int) ∧ (b.toNat : Int) ≤ 57) ∨ (b.toNat : Int) = 45 ∨ (b.toNat : Int) = 95) := by
   unfold labelByte
   rw [Bool.eq_iff_iff]
   have h45 : b = 45 ↔ (b.toNat : Int) = 45 := by rw [← UInt8.toNat_inj]; exact ⟨fun h => by rw [h]; rfl, fun h => Int.ofNat.inj h⟩
   have h95 : b = 95 ↔ (b.toNat : Int) = 95 := by rw [← UInt8.toNat_inj]; exact ⟨fun h => by rw [h]; rfl, fun h => Int.ofNat.inj h⟩
   simp only [Bool.or_eq_true, decide_eq_true_eq, beq_iff_eq, h45, h95]
   omega
  rw [hb]
  generalize (b.toNat : Int) = v
  by_cases hv : (97 ≤ v ∧ v ≤ 122) ∨ (48 ≤ v ∧ v ≤ 57) ∨ v = 45 ∨ v = 95
  · rw [decide_eq_true hv, Bool.true_and]
    repeat' split
    all_goals first | rfl | omega
  · rw [decide_eq_false hv, Bool.false_and, Bool.false_and]
    repeat' split
    all_goals first | rfl | omega
theorem label_ev (s : ByteArray) (hs : s.size < 1099511627776) : Ev (fun k => spec_l1Label.f k s) (isLabelL s.data.toList) := by
 refine Ev.of (fun k => spec_l1Label.mono _ _) (k := s.size + 1) ?_
 unfold spec_l1Label.f isLabelL
 rw [Lib.toList_data]
 by_cases h : s.data.toList = [42]
 · rw [if_pos h, h]; rfl
 · rw [if_neg h, show (s.data.toList == [42]) = false from beq_eq_false_iff_ne.mpr h, Bool.false_or, Bool.and_comm]
   have := label_loop s hs s.size 0 (by omega)
   simpa using this
def labsR (s : ByteArray) (parts : List ByteArray) (i : Nat) : List ByteArray × Bool :=
 if (parts.drop i).all (fun p => isLabelL p.data.toList) then (if s.size ≤ 60 then (parts, decide (parts.length ≤ 8)) else (parts, false)) else ([], false)
theorem labels_loop (s : ByteArray) (parts : List ByteArray) (hp : ∀ p ∈ parts, p.size < 1099511627776) (hl : parts.length < 1099511627776) : ∀ (m i : Nat), i + m = parts.length →
 Ev (fun k => spec_l1Labels.l0 k s parts parts (parts.length : Int) (i : Int)) (labsR s parts i)
 | 0, i, him => by
  refine Ev.step (f := fun k => some (labsR s parts i)) (fun k => ?_) (Ev.now _)
  show spec_l1Labels.l0 (k + 1) s parts parts (parts.length : Int) (i : Int) = _
  unfold spec_l1Labels.l0 labsR
  rw [if_neg (by omega), List.drop_of_length_le (by omega)]
  simp only [List.all_nil, if_true]
  by_cases h : s.size ≤ 60
  · rw [if_pos (by omega), if_pos h]
    congr 2
    rw [decide_eq_decide]; omega
  · rw [if_neg (by omega), if_neg h]
 | m + 1, i, him => by
  have hi : i < parts.length := by omega
  have ih := labels_loop s parts hp hl m (i + 1) (by omega)
  have hrd : rdOf ByteArray.empty parts (i : Int) = parts[i] := by
   unfold rdOf
   rw [Int.toNat_natCast, List.getD_eq_getElem?_getD, List.getElem?_eq_getElem hi]
   rfl
  refine Ev.step (f := fun k => (spec_l1Label.f k parts[i]).bind fun t => if t = true then spec_l1Labels.l0 k s parts parts (parts.length : Int) ((i + 1 : Nat) : Int) else some ([], false)) (fun k => ?_) ?_
  · show spec_l1Labels.l0 (k + 1) s parts parts (parts.length : Int) (i : Int) = _
    conv => lhs; unfold spec_l1Labels.l0
    rw [if_pos (by omega), if_pos (by omega), if_pos (by omega), hrd, w64n (by omega)]
  · refine Ev.bind (label_ev _ (hp _ (List.getElem_mem hi))) ?_
    have hd : labsR s parts i = if isLabelL parts[i].data.toList = true then labsR s parts (i + 1) else ([], false) := by
     unfold labsR
     rw [List.drop_eq_getElem_cons hi, List.all_cons]
     cases isLabelL parts[i].data.toList <;> simp
    rw [hd]
    by_cases h : isLabelL parts[i].data.toList = true
    · simp only [if_pos h]
      exact ih
    · simp only [if_neg h]
      exact Ev.now _
theorem splitL_len (c : UInt8) (l : List UInt8) : (splitL c l).length ≤ l.length + 1 := by
 induction l with
 | nil => simp [splitL]
 | cons x xs ih =>
  unfold splitL
  split
  · simp; omega
  · split
    · simp
    · rename_i e
      rw [e] at ih
      simp at ih ⊢
      omega
theorem splitL_part (c : UInt8) (l : List UInt8) : ∀ p ∈ splitL c l, p.length ≤ l.length := by
 induction l with
 | nil => simp [splitL]
 | cons x xs ih =>
  unfold splitL
  split
  · intro p hp
    rcases List.mem_cons.1 hp with rfl | hp
    · simp
    · have := ih p hp; simp; omega
  · split
    · simp
    · rename_i e
      rw [e] at ih
      intro p hp
      rcases List.mem_cons.1 hp with rfl | hp
      · have := ih _ List.mem_cons_self; simp; omega
      · have := ih p (List.mem_cons_of_mem _ hp); simp; omega
theorem labels_ev (s : ByteArray) (hs : s.size < 549755813888) : ∃ r, Ev (fun k => spec_l1Labels.f k s) r ∧ r.2 = goodL s.data.toList ∧ (r.2 = true → r.1 = (labelsL s.data.toList).map mkB) := by
 by_cases h : s.data.toList = []
 · refine ⟨([], true), ?_, ?_, ?_⟩
   · refine Ev.congr (fun k => ?_) (Ev.now _)
     unfold spec_l1Labels.f
     rw [if_pos (by rw [Lib.toList_data]; exact h)]
   · rw [h]; decide
   · rw [h]; intro _; rfl
 · refine ⟨labsR s ((splitL 46 s.data.toList).map mkB) 0, ?_, ?_, ?_⟩
   · refine Ev.congr (f := fun k => (spec_l1Split.f k s 46).bind fun t => spec_l1Labels.l0 k s t t (t.length : Int) 0) (fun k => ?_) (Ev.bind (split_ev s (by omega)) ?_)
     · show spec_l1Labels.f k s = _
       unfold spec_l1Labels.f
       rw [if_neg (by rw [Lib.toList_data]; exact h)]
     · have hlen : ((splitL 46 s.data.toList).map mkB).length ≤ s.size + 1 := by rw [List.length_map, size_len]; exact splitL_len _ _
       refine labels_loop s _ ?_ (by omega) _ 0 (Nat.zero_add _)
       intro p hp
       obtain ⟨q, hq, rfl⟩ := List.mem_map.1 hp
       have := splitL_part 46 _ q hq
       rw [mkB_size]
       rw [← size_len] at this
       omega
   all_goals
    unfold labsR
    try unfold goodL
    rw [show labelsL s.data.toList = splitL 46 s.data.toList by unfold labelsL; rw [if_neg h]]
    simp only [List.drop_zero, List.all_map, Function.comp_def, mkB_data, List.length_map, ← size_len]
    by_cases h1 : (splitL 46 s.data.toList).all isLabelL = true
    · simp only [show (splitL 46 s.data.toList).all (fun p => isLabelL p) = true from h1]
      by_cases h2 : s.size ≤ 60
      · simp [h1, h2]
      · simp [h1, h2]
    · simp only [show (splitL 46 s.data.toList).all (fun p => isLabelL p) = false from Bool.eq_false_iff.mpr h1]
      simp [h1]
theorem good_ev (s : ByteArray) (hs : s.size < 549755813888) : ∃ r, Ev (fun k => spec_l1Labels.f k s) r ∧ r.2 = goodL s.data.toList := by
 obtain ⟨r, h1, h2, _⟩ := labels_ev s hs
 exact ⟨r, h1, h2⟩
end Go.Proofs.YtiegkjimpclmaaaGreatDoor.Pure
namespace Go.Proofs.YtiegkjimpclmaaaGreatDoor.P
attribute [local go_sem] max2_int min2_int max_two min_two max_three min_three max_four min_four
def spec_GoodRecord.f (k : Nat) (a0_0 : ByteArray) (a0_1 : Int) (a0_2 : Int) (a0_3 : ByteArray) : Option (Bool) := (spec_l3Bytes.f k a0_1 a0_3).bind fun bt292 => (if bt292.2 = true then ((spec_GoodName.f k a0_0).bind fun t294 => (if t294 = true then ((spec_l1In.f a0_2 0 100000).bind fun t295 => (some t295)) else (some false))) else (some false))
theorem spec_GoodRecord.calls (k : Nat) (a0_0 : ByteArray) (a0_1 : Int) (a0_2 : Int) (a0_3 : ByteArray) (r : Bool) (w : World) (h : spec_GoodRecord.f k a0_0 a0_1 a0_2 a0_3 = some r) :
 Calls Tryz.prog 61 #[.agg #[.string a0_0, .int .i64 a0_1, .int .i64 a0_2, .string a0_3]] w fun e w' => e = .returned (.bool r) ∧ Below w.heap.size w w' := by
 have hu45 := Tryz.underlying45
 have HB := a0_ (Below.refl w.heap.size w)
 have H := h
 clear h
 unfold spec_GoodRecord.f at H
 obtain ⟨⟨t292, t293⟩, A2, H⟩ := ob_ H
 by_cases c3 : t293 = true
 case neg =>
  replace c3 := Bool.eq_false_iff.mpr c3
  subst c3
  rw [if_neg ff_] at H
  obtain rfl := Option.some.inj H
  go_enter Tryz.func61, Tryz.ntmps61
  go_wp2_with (first | ((with_reducible refine gate_dst (N := 1) rfl ?_); refine boxS_ 1 #[.string a0_0, .int .i64 a0_1, .int .i64 a0_2, .string a0_3] 45 (fun gb291 hg w18 hbox hb => ?_); have BK291 := a0_ (hbox); have GW291 := a0_ (gw_ hg : w.heap.size ≤ gb291); replace HB := a0_ (below_step bq0_ hb); have GE291 := GW291; clear hb hbox hg; obtain ⟨_, _, _, _, _, _, _, _⟩ := bk4_ BK291.out) | ((with_reducible refine gt_ 55 rfl ?_); refine gs_ 10 Tryz.func55 #[.int .i64 a0_1, .string a0_3] ?_; (with_reducible refine (spec_l3Bytes.calls k a0_1 a0_3 t292 false _ A2.out).mono ?_); rintro e w20 ⟨rfl, hb⟩; refine ⟨_, rfl, ?_⟩; replace BK291 := a0_ (bkB_ BK291 hb); replace HB := a0_ (below_step bq1_ hb); clear hb))
  go_ret
  exact ⟨rr_, bq1_⟩
 subst c3
 rw [if_pos rfl] at H
 obtain ⟨t294, A4, H⟩ := ob_ H
 by_cases c5 : t294 = true
 case neg =>
  replace c5 := Bool.eq_false_iff.mpr c5
  subst c5
  rw [if_neg ff_] at H
  obtain rfl := Option.some.inj H
  go_enter Tryz.func61, Tryz.ntmps61
  go_wp2_with (first | ((with_reducible refine gate_dst (N := 1) rfl ?_); refine boxS_ 1 #[.string a0_0, .int .i64 a0_1, .int .i64 a0_2, .string a0_3] 45 (fun gb291 hg w13 hbox hb => ?_); have BK291 := a0_ (hbox); have GW291 := a0_ (gw_ hg : w.heap.size ≤ gb291); replace HB := a0_ (below_step bq0_ hb); have GE291 := GW291; clear hb hbox hg; obtain ⟨_, _, _, _, _, _, _, _⟩ := bk4_ BK291.out) | ((with_reducible refine gt_ 55 rfl ?_); refine gs_ 10 Tryz.func55 #[.int .i64 a0_1, .string a0_3] ?_; (with_reducible refine (spec_l3Bytes.calls k a0_1 a0_3 t292 true _ A2.out).mono ?_); rintro e w15 ⟨rfl, hb⟩; refine ⟨_, rfl, ?_⟩; replace BK291 := a0_ (bkB_ BK291 hb); replace HB := a0_ (below_step bq1_ hb); clear hb; obtain ⟨_, _, _, _, _, _, _, _⟩ := bk4_ BK291.out) | (go_at_call 127; (with_reducible refine (spec_GoodName.calls k a0_0 false _ A4.out).mono ?_); rintro e w17 ⟨rfl, hb⟩; replace BK291 := a0_ (bkB_ BK291 hb); replace HB := a0_ (below_step bq1_ hb); clear hb))
  go_ret
  exact ⟨rr_, bq1_⟩
 subst c5
 rw [if_pos rfl] at H
 obtain ⟨t295, A6, H⟩ := ob_ H
 obtain rfl := Option.some.inj H
 go_enter Tryz.func61, Tryz.ntmps61
 go_wp2_with (first | ((with_reducible refine gate_dst (N := 1) rfl ?_); refine boxS_ 1 #[.string a0_0, .int .i64 a0_1, .int .i64 a0_2, .string a0_3] 45 (fun gb291 hg w7 hbox hb => ?_); have BK291 := a0_ (hbox); have GW291 := a0_ (gw_ hg : w.heap.size ≤ gb291); replace HB := a0_ (below_step bq0_ hb); have GE291 := GW291; clear hb hbox hg; obtain ⟨_, _, _, _, _, _, _, _⟩ := bk4_ BK291.out) | ((with_reducible refine gt_ 55 rfl ?_); refine gs_ 10 Tryz.func55 #[.int .i64 a0_1, .string a0_3] ?_; (with_reducible refine (spec_l3Bytes.calls k a0_1 a0_3 t292 true _ A2.out).mono ?_); rintro e w9 ⟨rfl, hb⟩; refine ⟨_, rfl, ?_⟩; replace BK291 := a0_ (bkB_ BK291 hb); replace HB := a0_ (below_step bq1_ hb); clear hb; obtain ⟨_, _, _, _, _, _, _, _⟩ := bk4_ BK291.out) | (go_at_call 127; (with_reducible refine (spec_GoodName.calls k a0_0 true _ A4.out).mono ?_); rintro e w11 ⟨rfl, hb⟩; replace BK291 := a0_ (bkB_ BK291 hb); replace HB := a0_ (below_step bq1_ hb); clear hb; obtain ⟨_, _, _, _, _, _, _, _⟩ := bk4_ BK291.out) | (go_at_call 102; (with_reducible refine (spec_l1In.calls a0_2 0 100000 t295 _ A6.out).mono ?_); rintro e w' ⟨rfl, ⟨nd, rfl⟩⟩))
 go_ret
 exact ⟨rr_, bq1_⟩
end Go.Proofs.YtiegkjimpclmaaaGreatDoor.P
namespace Go.Proofs.YtiegkjimpclmaaaGreatDoor.P
attribute [local go_sem] max2_int min2_int max_two min_two max_three min_three max_four min_four
attribute [local go_sem] gtr_less
def spec_l3Compare.f (k : Nat) (a0_0 : ByteArray) (a0_1 : Int) (a0_2 : Int) (a0_3 : ByteArray) (a1_0 : ByteArray) (a1_1 : Int) (a1_2 : Int) (a1_3 : ByteArray) : Option (Int) := (spec_l1Compare.f k a0_0 a1_0).bind fun t308 => (if t308 = 0 then ((spec_l3Bytes.f k a0_1 a0_3).bind fun bt309 => ((spec_l3Bytes.f k a1_1 a1_3).bind fun bt311 => (if a0_1 = a1_1 then (if bt309.1.toList = bt311.1.toList then (if a0_2 = a1_2 then (some 0) else ((spec_l3Less.f (decide (a0_2 < a1_2))).bind fun t313 => (some t313))) else ((spec_l3Less.f (Op.bytesLess bt309.1.toList bt311.1.toList)).bind fun t314 => (some t314))) else ((spec_l3Less.f (decide (a0_1 < a1_1))).bind fun t315 => (some t315))))) else (some t308))
theorem spec_l3Compare.calls (k : Nat) (a0_0 : ByteArray) (a0_1 : Int) (a0_2 : Int) (a0_3 : ByteArray) (a1_0 : ByteArray) (a1_1 : Int) (a1_2 : Int) (a1_3 : ByteArray) (r : Int) (w : World) (h : spec_l3Compare.f k a0_0 a0_1 a0_2 a0_3 a1_0 a1_1 a1_2 a1_3 = some r) :
 Calls Tryz.prog 62 #[.agg #[.string a0_0, .int .i64 a0_1, .int .i64 a0_2, .string a0_3], .agg #[.string a1_0, .int .i64 a1_1, .int .i64 a1_2, .string a1_3]] w fun e w' => e = .returned (.int .i64 r) ∧ Below w.heap.size w w' := by
 have hu45 := Tryz.underlying45
 have HB := a0_ (Below.refl w.heap.size w)
 have H := h
 clear h
 unfold spec_l3Compare.f at H
 obtain ⟨t308, A3, H⟩ := ob_ H
 by_cases c4 : t308 = 0
 case neg =>
  rw [if_neg c4] at H
  have c4b0 := beq_eq_false_iff_ne.mpr c4
  have c4b1 := bne_iff_ne.mpr c4
  obtain rfl := Option.some.inj H
  go_enter Tryz.func62, Tryz.ntmps62
  go_wp2_with (first | ((with_reducible refine gate_dst (N := 2) rfl ?_); refine boxS_ 2 #[.string a0_0, .int .i64 a0_1, .int .i64 a0_2, .string a0_3] 45 (fun gb306 hg w61 hbox hb => ?_); have BK306 := a0_ (hbox); have GW306 := a0_ (gw_ hg : w.heap.size ≤ gb306); replace HB := a0_ (below_step bq0_ hb); have GE306 := GW306; clear hb hbox hg) | ((with_reducible refine gate_dst (N := 3) rfl ?_); refine boxS_ 3 #[.string a1_0, .int .i64 a1_1, .int .i64 a1_2, .string a1_3] 45 (fun gb307 hg w62 hbox hb => ?_); have BK307 := a0_ (hbox); have GW307 := a0_ (gw_ hg (below_size bq1_) : w.heap.size ≤ gb307); replace HB := a0_ (below_step bq1_ hb); have NB306_307 := a0_ ((by rw [hg]; exact Nat.ne_of_lt (blk_lt (g := gb306) (o := .cells #[.string a0_0, .int .i64 a0_1, .int .i64 a0_2, .string a0_3] 45 (0, 0)) (kB_ BK306.out)) : gb306 ≠ gb307)); have NB307_306 := a0_ ((by rw [hg]; exact Nat.ne_of_gt (blk_lt (g := gb306) (o := .cells #[.string a0_0, .int .i64 a0_1, .int .i64 a0_2, .string a0_3] 45 (0, 0)) (kB_ BK306.out)) : gb307 ≠ gb306)); replace BK306 := a0_ (bkB_ BK306 hb); have GE307 := GW307; clear hb hbox hg; have hnb63 := NB306_307.out; have hnc63 := NB307_306.out; obtain ⟨_, _, _, _, _, _, _, _⟩ := bk4_ BK306.out; obtain ⟨_, _, _, _, _, _, _, _⟩ := bk4_ BK307.out) | ((with_reducible refine gt_ 128 rfl ?_); refine gs_ 14 Tryz.func128 #[.string a0_0, .string a1_0] ?_; (with_reducible refine (spec_l1Compare.calls k a0_0 a1_0 t308 _ A3.out).mono ?_); rintro e w66 ⟨rfl, hb⟩; refine ⟨_, rfl, ?_⟩; replace BK306 := a0_ (bkB_ BK306 hb); replace BK307 := a0_ (bkB_ BK307 hb); replace HB := a0_ (below_step bq1_ hb); clear hb))
  go_ret
  exact ⟨rr_, bq1_⟩
 rw [if_pos c4] at H
 have c4b0 := beq_iff_eq.mpr c4
 have c4b1 := bne_eq_false_iff_eq.mpr c4
 clear c4
 obtain ⟨⟨t309, t310⟩, A5, H⟩ := ob_ H
 obtain ⟨⟨t311, t312⟩, A6, H⟩ := ob_ H
 by_cases c7 : a0_1 = a1_1
 case neg =>
  rw [if_neg c7] at H
  have c7b0 := beq_eq_false_iff_ne.mpr c7
  have c7b1 := bne_iff_ne.mpr c7
  obtain ⟨t315, A48, H⟩ := ob_ H
  obtain rfl := Option.some.inj H
  go_enter Tryz.func62, Tryz.ntmps62
  go_wp2_with (first | ((with_reducible refine gate_dst (N := 2) rfl ?_); refine boxS_ 2 #[.string a0_0, .int .i64 a0_1, .int .i64 a0_2, .string a0_3] 45 (fun gb306 hg w49 hbox hb => ?_); have BK306 := a0_ (hbox); have GW306 := a0_ (gw_ hg : w.heap.size ≤ gb306); replace HB := a0_ (below_step bq0_ hb); have GE306 := GW306; clear hb hbox hg) | ((with_reducible refine gate_dst (N := 3) rfl ?_); refine boxS_ 3 #[.string a1_0, .int .i64 a1_1, .int .i64 a1_2, .string a1_3] 45 (fun gb307 hg w50 hbox hb => ?_); have BK307 := a0_ (hbox); have GW307 := a0_ (gw_ hg (below_size bq1_) : w.heap.size ≤ gb307); replace HB := a0_ (below_step bq1_ hb); have NB306_307 := a0_ ((by rw [hg]; exact Nat.ne_of_lt (blk_lt (g := gb306) (o := .cells #[.string a0_0, .int .i64 a0_1, .int .i64 a0_2, .string a0_3] 45 (0, 0)) (kB_ BK306.out)) : gb306 ≠ gb307)); have NB307_306 := a0_ ((by rw [hg]; exact Nat.ne_of_gt (blk_lt (g := gb306) (o := .cells #[.string a0_0, .int .i64 a0_1, .int .i64 a0_2, .string a0_3] 45 (0, 0)) (kB_ BK306.out)) : gb307 ≠ gb306)); replace BK306 := a0_ (bkB_ BK306 hb); have GE307 := GW307; clear hb hbox hg; have hnb51 := NB306_307.out; have hnc51 := NB307_306.out; obtain ⟨_, _, _, _, _, _, _, _⟩ := bk4_ BK306.out; obtain ⟨_, _, _, _, _, _, _, _⟩ := bk4_ BK307.out) | ((with_reducible refine gt_ 128 rfl ?_); refine gs_ 14 Tryz.func128 #[.string a0_0, .string a1_0] ?_; (with_reducible refine (spec_l1Compare.calls k a0_0 a1_0 t308 _ A3.out).mono ?_); rintro e w54 ⟨rfl, hb⟩; refine ⟨_, rfl, ?_⟩; replace BK306 := a0_ (bkB_ BK306 hb); replace BK307 := a0_ (bkB_ BK307 hb); replace HB := a0_ (below_step bq1_ hb); clear hb; obtain ⟨_, _, _, _, _, _, _, _⟩ := bk4_ BK306.out) | ((with_reducible refine gt_ 55 rfl ?_); refine gs_ 23 Tryz.func55 #[.int .i64 a0_1, .string a0_3] ?_; (with_reducible refine (spec_l3Bytes.calls k a0_1 a0_3 t309 t310 _ A5.out).mono ?_); rintro e w56 ⟨rfl, hb⟩; refine ⟨_, rfl, ?_⟩; replace BK306 := a0_ (bkB_ BK306 hb); replace BK307 := a0_ (bkB_ BK307 hb); replace HB := a0_ (below_step bq1_ hb); clear hb; obtain ⟨_, _, _, _, _, _, _, _⟩ := bk4_ BK307.out) | ((with_reducible refine gt_ 55 rfl ?_); refine gs_ 31 Tryz.func55 #[.int .i64 a1_1, .string a1_3] ?_; (with_reducible refine (spec_l3Bytes.calls k a1_1 a1_3 t311 t312 _ A6.out).mono ?_); rintro e w58 ⟨rfl, hb⟩; refine ⟨_, rfl, ?_⟩; replace BK306 := a0_ (bkB_ BK306 hb); replace BK307 := a0_ (bkB_ BK307 hb); replace HB := a0_ (below_step bq1_ hb); clear hb; obtain ⟨_, _, _, _, _, _, _, _⟩ := bk4_ BK306.out; obtain ⟨_, _, _, _, _, _, _, _⟩ := bk4_ BK307.out) | ((with_reducible refine gt_ 129 rfl ?_); refine gs_ 45 Tryz.func129 #[.bool (decide (a0_1 < a1_1))] ?_; (with_reducible refine (spec_l3Less.calls (decide (a0_1 < a1_1)) t315 _ A48.out).mono ?_); rintro e w' ⟨rfl, ⟨nd, rfl⟩⟩; refine ⟨_, rfl, ?_⟩))
  go_ret
  exact ⟨rr_, bq1_⟩
 rw [if_pos c7] at H
 have c7b0 := beq_iff_eq.mpr c7
 have c7b1 := bne_eq_false_iff_eq.mpr c7
 clear c7
 by_cases c8 : t309.toList = t311.toList
 case neg =>
  rw [if_neg c8] at H
  have c8b0 := beq_eq_false_iff_ne.mpr c8
  have c8b1 := bne_iff_ne.mpr c8
  obtain ⟨t314, A35, H⟩ := ob_ H
  obtain rfl := Option.some.inj H
  go_enter Tryz.func62, Tryz.ntmps62
  go_wp2_with (first | ((with_reducible refine gate_dst (N := 2) rfl ?_); refine boxS_ 2 #[.string a0_0, .int .i64 a0_1, .int .i64 a0_2, .string a0_3] 45 (fun gb306 hg w36 hbox hb => ?_); have BK306 := a0_ (hbox); have GW306 := a0_ (gw_ hg : w.heap.size ≤ gb306); replace HB := a0_ (below_step bq0_ hb); have GE306 := GW306; clear hb hbox hg) | ((with_reducible refine gate_dst (N := 3) rfl ?_); refine boxS_ 3 #[.string a1_0, .int .i64 a1_1, .int .i64 a1_2, .string a1_3] 45 (fun gb307 hg w37 hbox hb => ?_); have BK307 := a0_ (hbox); have GW307 := a0_ (gw_ hg (below_size bq1_) : w.heap.size ≤ gb307); replace HB := a0_ (below_step bq1_ hb); have NB306_307 := a0_ ((by rw [hg]; exact Nat.ne_of_lt (blk_lt (g := gb306) (o := .cells #[.string a0_0, .int .i64 a0_1, .int .i64 a0_2, .string a0_3] 45 (0, 0)) (kB_ BK306.out)) : gb306 ≠ gb307)); have NB307_306 := a0_ ((by rw [hg]; exact Nat.ne_of_gt (blk_lt (g := gb306) (o := .cells #[.string a0_0, .int .i64 a0_1, .int .i64 a0_2, .string a0_3] 45 (0, 0)) (kB_ BK306.out)) : gb307 ≠ gb306)); replace BK306 := a0_ (bkB_ BK306 hb); have GE307 := GW307; clear hb hbox hg; have hnb38 := NB306_307.out; have hnc38 := NB307_306.out; obtain ⟨_, _, _, _, _, _, _, _⟩ := bk4_ BK306.out; obtain ⟨_, _, _, _, _, _, _, _⟩ := bk4_ BK307.out) | ((with_reducible refine gt_ 128 rfl ?_); refine gs_ 14 Tryz.func128 #[.string a0_0, .string a1_0] ?_; (with_reducible refine (spec_l1Compare.calls k a0_0 a1_0 t308 _ A3.out).mono ?_); rintro e w41 ⟨rfl, hb⟩; refine ⟨_, rfl, ?_⟩; replace BK306 := a0_ (bkB_ BK306 hb); replace BK307 := a0_ (bkB_ BK307 hb); replace HB := a0_ (below_step bq1_ hb); clear hb; obtain ⟨_, _, _, _, _, _, _, _⟩ := bk4_ BK306.out) | ((with_reducible refine gt_ 55 rfl ?_); refine gs_ 23 Tryz.func55 #[.int .i64 a0_1, .string a0_3] ?_; (with_reducible refine (spec_l3Bytes.calls k a0_1 a0_3 t309 t310 _ A5.out).mono ?_); rintro e w43 ⟨rfl, hb⟩; refine ⟨_, rfl, ?_⟩; replace BK306 := a0_ (bkB_ BK306 hb); replace BK307 := a0_ (bkB_ BK307 hb); replace HB := a0_ (below_step bq1_ hb); clear hb; obtain ⟨_, _, _, _, _, _, _, _⟩ := bk4_ BK307.out) | ((with_reducible refine gt_ 55 rfl ?_); refine gs_ 31 Tryz.func55 #[.int .i64 a1_1, .string a1_3] ?_; (with_reducible refine (spec_l3Bytes.calls k a1_1 a1_3 t311 t312 _ A6.out).mono ?_); rintro e w45 ⟨rfl, hb⟩; refine ⟨_, rfl, ?_⟩; replace BK306 := a0_ (bkB_ BK306 hb); replace BK307 := a0_ (bkB_ BK307 hb); replace HB := a0_ (below_step bq1_ hb); clear hb; obtain ⟨_, _, _, _, _, _, _, _⟩ := bk4_ BK306.out; obtain ⟨_, _, _, _, _, _, _, _⟩ := bk4_ BK307.out) | ((with_reducible refine gt_ 129 rfl ?_); refine gs_ 53 Tryz.func129 #[.bool (Op.bytesLess t309.toList t311.toList)] ?_; (with_reducible refine (spec_l3Less.calls (Op.bytesLess t309.toList t311.toList) t314 _ A35.out).mono ?_); rintro e w' ⟨rfl, ⟨nd, rfl⟩⟩; refine ⟨_, rfl, ?_⟩))
  go_ret
  exact ⟨rr_, bq1_⟩
 rw [if_pos c8] at H
 have c8b0 := beq_iff_eq.mpr c8
 have c8b1 := bne_eq_false_iff_eq.mpr c8
 clear c8
 by_cases c9 : a0_2 = a1_2
 case pos =>
  rw [if_pos c9] at H
  have c9b0 := beq_iff_eq.mpr c9
  have c9b1 := bne_eq_false_iff_eq.mpr c9
  clear c9
  obtain rfl := Option.some.inj H
  go_enter Tryz.func62, Tryz.ntmps62
  go_wp2_with (first | ((with_reducible refine gate_dst (N := 2) rfl ?_); refine boxS_ 2 #[.string a0_0, .int .i64 a0_1, .int .i64 a0_2, .string a0_3] 45 (fun gb306 hg w10 hbox hb => ?_); have BK306 := a0_ (hbox); have GW306 := a0_ (gw_ hg : w.heap.size ≤ gb306); replace HB := a0_ (below_step bq0_ hb); have GE306 := GW306; clear hb hbox hg) | ((with_reducible refine gate_dst (N := 3) rfl ?_); refine boxS_ 3 #[.string a1_0, .int .i64 a1_1, .int .i64 a1_2, .string a1_3] 45 (fun gb307 hg w11 hbox hb => ?_); have BK307 := a0_ (hbox); have GW307 := a0_ (gw_ hg (below_size bq1_) : w.heap.size ≤ gb307); replace HB := a0_ (below_step bq1_ hb); have NB306_307 := a0_ ((by rw [hg]; exact Nat.ne_of_lt (blk_lt (g := gb306) (o := .cells #[.string a0_0, .int .i64 a0_1, .int .i64 a0_2, .string a0_3] 45 (0, 0)) (kB_ BK306.out)) : gb306 ≠ gb307)); have NB307_306 := a0_ ((by rw [hg]; exact Nat.ne_of_gt (blk_lt (g := gb306) (o := .cells #[.string a0_0, .int .i64 a0_1, .int .i64 a0_2, .string a0_3] 45 (0, 0)) (kB_ BK306.out)) : gb307 ≠ gb306)); replace BK306 := a0_ (bkB_ BK306 hb); have GE307 := GW307; clear hb hbox hg; have hnb12 := NB306_307.out; have hnc12 := NB307_306.out; obtain ⟨_, _, _, _, _, _, _, _⟩ := bk4_ BK306.out; obtain ⟨_, _, _, _, _, _, _, _⟩ := bk4_ BK307.out) | ((with_reducible refine gt_ 128 rfl ?_); refine gs_ 14 Tryz.func128 #[.string a0_0, .string a1_0] ?_; (with_reducible refine (spec_l1Compare.calls k a0_0 a1_0 t308 _ A3.out).mono ?_); rintro e w15 ⟨rfl, hb⟩; refine ⟨_, rfl, ?_⟩; replace BK306 := a0_ (bkB_ BK306 hb); replace BK307 := a0_ (bkB_ BK307 hb); replace HB := a0_ (below_step bq1_ hb); clear hb; obtain ⟨_, _, _, _, _, _, _, _⟩ := bk4_ BK306.out) | ((with_reducible refine gt_ 55 rfl ?_); refine gs_ 23 Tryz.func55 #[.int .i64 a0_1, .string a0_3] ?_; (with_reducible refine (spec_l3Bytes.calls k a0_1 a0_3 t309 t310 _ A5.out).mono ?_); rintro e w17 ⟨rfl, hb⟩; refine ⟨_, rfl, ?_⟩; replace BK306 := a0_ (bkB_ BK306 hb); replace BK307 := a0_ (bkB_ BK307 hb); replace HB := a0_ (below_step bq1_ hb); clear hb; obtain ⟨_, _, _, _, _, _, _, _⟩ := bk4_ BK307.out) | ((with_reducible refine gt_ 55 rfl ?_); refine gs_ 31 Tryz.func55 #[.int .i64 a1_1, .string a1_3] ?_; (with_reducible refine (spec_l3Bytes.calls k a1_1 a1_3 t311 t312 _ A6.out).mono ?_); rintro e w19 ⟨rfl, hb⟩; refine ⟨_, rfl, ?_⟩; replace BK306 := a0_ (bkB_ BK306 hb); replace BK307 := a0_ (bkB_ BK307 hb); replace HB := a0_ (below_step bq1_ hb); clear hb; obtain ⟨_, _, _, _, _, _, _, _⟩ := bk4_ BK306.out; obtain ⟨_, _, _, _, _, _, _, _⟩ := bk4_ BK307.out))
  go_ret
  exact ⟨rr_, bq1_⟩
 rw [if_neg c9] at H
 have c9b0 := beq_eq_false_iff_ne.mpr c9
 have c9b1 := bne_iff_ne.mpr c9
 obtain ⟨t313, A22, H⟩ := ob_ H
 obtain rfl := Option.some.inj H
 go_enter Tryz.func62, Tryz.ntmps62
 go_wp2_with (first | ((with_reducible refine gate_dst (N := 2) rfl ?_); refine boxS_ 2 #[.string a0_0, .int .i64 a0_1, .int .i64 a0_2, .string a0_3] 45 (fun gb306 hg w23 hbox hb => ?_); have BK306 := a0_ (hbox); have GW306 := a0_ (gw_ hg : w.heap.size ≤ gb306); replace HB := a0_ (below_step bq0_ hb); have GE306 := GW306; clear hb hbox hg) | ((with_reducible refine gate_dst (N := 3) rfl ?_); refine boxS_ 3 #[.string a1_0, .int .i64 a1_1, .int .i64 a1_2, .string a1_3] 45 (fun gb307 hg w24 hbox hb => ?_); have BK307 := a0_ (hbox); have GW307 := a0_ (gw_ hg (below_size bq1_) : w.heap.size ≤ gb307); replace HB := a0_ (below_step bq1_ hb); have NB306_307 := a0_ ((by rw [hg]; exact Nat.ne_of_lt (blk_lt (g := gb306) (o := .cells #[.string a0_0, .int .i64 a0_1, .int .i64 a0_2, .string a0_3] 45 (0, 0)) (kB_ BK306.out)) : gb306 ≠ gb307)); have NB307_306 := a0_ ((by rw [hg]; exact Nat.ne_of_gt (blk_lt (g := gb306) (o := .cells #[.string a0_0, .int .i64 a0_1, .int .i64 a0_2, .string a0_3] 45 (0, 0)) (kB_ BK306.out)) : gb307 ≠ gb306)); replace BK306 := a0_ (bkB_ BK306 hb); have GE307 := GW307; clear hb hbox hg; have hnb25 := NB306_307.out; have hnc25 := NB307_306.out; obtain ⟨_, _, _, _, _, _, _, _⟩ := bk4_ BK306.out; obtain ⟨_, _, _, _, _, _, _, _⟩ := bk4_ BK307.out) | ((with_reducible refine gt_ 128 rfl ?_); refine gs_ 14 Tryz.func128 #[.string a0_0, .string a1_0] ?_; (with_reducible refine (spec_l1Compare.calls k a0_0 a1_0 t308 _ A3.out).mono ?_); rintro e w28 ⟨rfl, hb⟩; refine ⟨_, rfl, ?_⟩; replace BK306 := a0_ (bkB_ BK306 hb); replace BK307 := a0_ (bkB_ BK307 hb); replace HB := a0_ (below_step bq1_ hb); clear hb; obtain ⟨_, _, _, _, _, _, _, _⟩ := bk4_ BK306.out) | ((with_reducible refine gt_ 55 rfl ?_); refine gs_ 23 Tryz.func55 #[.int .i64 a0_1, .string a0_3] ?_; (with_reducible refine (spec_l3Bytes.calls k a0_1 a0_3 t309 t310 _ A5.out).mono ?_); rintro e w30 ⟨rfl, hb⟩; refine ⟨_, rfl, ?_⟩; replace BK306 := a0_ (bkB_ BK306 hb); replace BK307 := a0_ (bkB_ BK307 hb); replace HB := a0_ (below_step bq1_ hb); clear hb; obtain ⟨_, _, _, _, _, _, _, _⟩ := bk4_ BK307.out) | ((with_reducible refine gt_ 55 rfl ?_); refine gs_ 31 Tryz.func55 #[.int .i64 a1_1, .string a1_3] ?_; (with_reducible refine (spec_l3Bytes.calls k a1_1 a1_3 t311 t312 _ A6.out).mono ?_); rintro e w32 ⟨rfl, hb⟩; refine ⟨_, rfl, ?_⟩; replace BK306 := a0_ (bkB_ BK306 hb); replace BK307 := a0_ (bkB_ BK307 hb); replace HB := a0_ (below_step bq1_ hb); clear hb; obtain ⟨_, _, _, _, _, _, _, _⟩ := bk4_ BK306.out; obtain ⟨_, _, _, _, _, _, _, _⟩ := bk4_ BK307.out) | ((with_reducible refine gt_ 129 rfl ?_); refine gs_ 65 Tryz.func129 #[.bool (decide (a0_2 < a1_2))] ?_; (with_reducible refine (spec_l3Less.calls (decide (a0_2 < a1_2)) t313 _ A22.out).mono ?_); rintro e w' ⟨rfl, ⟨nd, rfl⟩⟩; refine ⟨_, rfl, ?_⟩))
 go_ret
 exact ⟨rr_, bq1_⟩
end Go.Proofs.YtiegkjimpclmaaaGreatDoor.P
namespace Go.Proofs.YtiegkjimpclmaaaGreatDoor.P
attribute [local go_sem] max2_int min2_int max_two min_two max_three min_three max_four min_four
def spec_DrawSetsOf.f (k : Nat) (l0 : List Int) : Option ((List (S45))) := (spec_l1Cur_records.f k l0 0 0).bind fun bt1181 => (some bt1181.1)
theorem spec_DrawSetsOf.calls (k : Nat) (A0 : Option Addr) (c0 : Nat) (l0 : List Int) (r : List (S45)) (w : World) (hr0 : Kd.C (Kd.int .u8) w A0 l0.length l0) (hc0 : l0.length ≤ c0) (h : spec_DrawSetsOf.f k l0 = some r) :
 Calls Tryz.prog 45 #[.slice A0 l0.length c0] w fun e w' => ∃ v0_ : Value, e = .returned (v0_) ∧ Kd.R k45 45 w' w.heap.size (fun _ => True) v0_ r ∧ Below w.heap.size w w' := by
 have hu117 := Tryz.underlying117
 have HR0 := a0_ hr0
 have HC0 := a0_ hc0
 clear hr0 hc0
 have HB := a0_ (Below.refl w.heap.size w)
 have H := h
 clear h
 unfold spec_DrawSetsOf.f at H
 obtain ⟨⟨t1181, t1184, t1185⟩, A2, H⟩ := ob_ H
 obtain rfl := Option.some.inj H
 go_enter Tryz.func45, Tryz.ntmps45
 go_wp2_with (first | ((with_reducible refine gate_dst (N := 6) rfl ?_); refine boxS_ 6 #[.slice A0 l0.length c0, .int .i64 0, .int .u64 0] 117 (fun gb1180 hg w3 hbox hb => ?_); have HI1180 := a0_ ((⟨A0, c0, hbox, (by rw [hg]; exact (below_size bq0_)), HR0.out⟩ : IsS117 w w3 gb1180 l0 0 0)); replace HB := a0_ (below_step bq0_ hb); clear hb hbox hg) | ((with_reducible refine gt_ 109 rfl ?_); refine gs_ 8 Tryz.func109 #[.pointer (some ⟨gb1180, 0, none⟩)] ?_; (with_reducible refine (spec_l1Cur_records.calls k gb1180 l0 0 0 t1181 t1184 t1185 w _ ?side1 ?side2 A2.out).mono ?_); (case side1 => exact i117_); (case side2 => exact bq2_); rintro e w4 ⟨v1182, rfl, ho0, hi, hb, hk⟩; refine ⟨_, rfl, ?_⟩; have HO1183 := a0_ (Kd.R_lower ho0 (below_size bq2_)); replace HB := a0_ (hb); replace HI1180 := a0_ (hi); clear hb hk hi; (try clear ho0)))
 go_ret
 exact ⟨_, rr_, kR_ HO1183.out, bq2_⟩
end Go.Proofs.YtiegkjimpclmaaaGreatDoor.P
namespace Go.Proofs.YtiegkjimpclmaaaGreatDoor.P
def badD : ByteArray × Bool := ((⟨#[]⟩ : ByteArray), false)
def impl_DataBytes.l0 : Nat → List ByteArray → ByteArray → Int → Option (ByteArray × Bool)
 | 0, _, _, _ => none
 | k + 1, parts, out, i => if i < (parts.length : Int) then (if 0 ≤ i then ((impl_numberIn.f (rdOf ByteArray.empty parts i) 255).bind fun b => (if b.2 = true then (if (parts.length : Int) = 4 then ((impl_big.f k b.1 1).bind fun t => (if out.size + t.size ≤ 9223372036854775807 then impl_DataBytes.l0 k parts (out ++ t) (wrap64 (i + 1)) else none)) else some badD) else some badD)) else none) else some (out, true)
def dataTxt (k : Nat) (data : ByteArray) : Option (ByteArray × Bool) := if (data.size : Int) > 30 then some badD else (if (bytesOf data).any (fun c => decide (c < 32) || decide (c > 126)) = true then some badD else ((impl_big.f k (data.size : Int) 1).bind fun t => (if t.size + data.size ≤ 9223372036854775807 then some (t ++ data, true) else none)))
def dataMx (k : Nat) (data : ByteArray) : Option (ByteArray × Bool) := (strings_Cut.f data (⟨#[32]⟩ : ByteArray)).bind fun c => ((impl_numberIn.f c.1 65535).bind fun b => (if b.2 = true then ((impl_isTarget.f c.2.1).bind fun t => (if t = true then ((impl_big.f k b.1 2).bind fun g => ((impl_labelBytes.f k c.2.1).bind fun lb => (if g.size + lb.size ≤ 9223372036854775807 then (if g.size + lb.size + 1 ≤ 9223372036854775807 then some ((g ++ lb) ++ (⟨#[0]⟩ : ByteArray), true) else none) else none))) else some badD)) else some badD))
def dataNs (k : Nat) (data : ByteArray) : Option (ByteArray × Bool) := (impl_isTarget.f data).bind fun t => (if t = true then ((impl_labelBytes.f k data).bind fun lb => (if lb.size + 1 ≤ 9223372036854775807 then some (lb ++ (⟨#[0]⟩ : ByteArray), true) else none)) else some badD)
def dataSoa (k : Nat) (data : ByteArray) : Option (ByteArray × Bool) := (impl_numberIn.f data 4294967295).bind fun b => (if b.2 = true then ((impl_big.f k b.1 4).bind fun t => some (t, true)) else some badD)
def impl_DataBytes.f (k : Nat) (kind : Int) (data : ByteArray) : Option (ByteArray × Bool) :=
 if kind = 1 then ((strings_Split.f data (⟨#[46]⟩ : ByteArray)).bind fun parts => impl_DataBytes.l0 k parts (⟨#[]⟩ : ByteArray) 0)
 else (if kind = 2 ∨ kind = 5 then dataNs k data else (if kind = 6 then dataSoa k data else (if kind = 15 then dataMx k data else (if kind = 16 then dataTxt k data else some badD))))
set_option maxHeartbeats 4000000 in
theorem data_ns (k : Nat) (kind : Int) (hk : kind = 2 ∨ kind = 5) (a1 : ByteArray) (r1 : ByteArray) (r2 : Bool) (w : World) (h : dataNs k a1 = some (r1, r2)) (hv : Vars w) :
 Calls Tryz.prog 31 #[.int .i64 kind, .string a1] w fun e w' => e = .returned (.tuple #[.string r1, .bool r2]) ∧ Below w.heap.size w w' := by
 unfold dataNs at h
 obtain ⟨t, ht, h⟩ := Option.bind_eq_some_iff.mp h
 have tc := fun W => impl_isTarget.calls a1 t W ht
 have hk1 : (kind == 1) = false := by rcases hk with rfl | rfl <;> rfl
 have hk2 : kind = 2 → (kind == 2) = true := fun e => by rw [e]; rfl
 cases t with
 | false =>
  obtain ⟨rfl, rfl⟩ := Prod.mk.inj (Option.some.inj h)
  clear h ht
  rcases hk with rfl | rfl
  · go_enter Tryz.func31, Tryz.ntmps31
    go_wp2_with (go_at_call 90; refine (tc _).mono ?_; rintro e w1 ⟨rfl, hb⟩)
    go_ret2
    exact ⟨rfl, hb⟩
  · go_enter Tryz.func31, Tryz.ntmps31
    go_wp2_with (go_at_call 90; refine (tc _).mono ?_; rintro e w1 ⟨rfl, hb⟩)
    go_ret2
    exact ⟨rfl, hb⟩
 | true =>
  rw [if_pos rfl] at h
  obtain ⟨lb, hlb, h⟩ := Option.bind_eq_some_iff.mp h
  have lc := fun W => impl_labelBytes.calls k a1 lb W hlb
  by_cases hs : lb.size + 1 ≤ 9223372036854775807
  · rw [if_pos hs] at h
    obtain ⟨rfl, rfl⟩ := Prod.mk.inj (Option.some.inj h)
    have hsa := eq_true hs
    have hsc : (9223372036854775807 < lb.size + 1) = False := eq_false (by omega)
    clear h ht hlb
    rcases hk with rfl | rfl
    · go_enter Tryz.func31, Tryz.ntmps31
      go_wp2_with (first | (go_at_call 90; refine (tc _).mono ?_; rintro e w1 ⟨rfl, hb⟩) | (go_at_call 91; refine (lc _).mono ?_; rintro e w2 ⟨rfl, hb2⟩; have hb3 := below_then hb hb.size hb2))
      go_ret2
      exact ⟨rfl, hb3⟩
    · go_enter Tryz.func31, Tryz.ntmps31
      go_wp2_with (first | (go_at_call 90; refine (tc _).mono ?_; rintro e w1 ⟨rfl, hb⟩) | (go_at_call 91; refine (lc _).mono ?_; rintro e w2 ⟨rfl, hb2⟩; have hb3 := below_then hb hb.size hb2))
      go_ret2
      exact ⟨rfl, hb3⟩
  · rw [if_neg hs] at h; cases h
set_option maxHeartbeats 4000000 in
theorem data_soa (k : Nat) (a1 : ByteArray) (r1 : ByteArray) (r2 : Bool) (w : World) (h : dataSoa k a1 = some (r1, r2)) (hv : Vars w) :
 Calls Tryz.prog 31 #[.int .i64 6, .string a1] w fun e w' => e = .returned (.tuple #[.string r1, .bool r2]) ∧ Below w.heap.size w w' := by
 unfold dataSoa at h
 obtain ⟨⟨b1, b2⟩, hb0, h⟩ := Option.bind_eq_some_iff.mp h
 replace h : (if b2 = true then ((impl_big.f k b1 4).bind fun t => some (t, true)) else some badD) = some (r1, r2) := h
 have nc := fun W (hbW : Below w.heap.size w W) => impl_numberIn.calls a1 4294967295 b1 b2 W hb0 (Vars.below hv hbW)
 clear hv
 cases b2 with
 | false =>
  obtain ⟨rfl, rfl⟩ := Prod.mk.inj (Option.some.inj h)
  clear h
  go_enter Tryz.func31, Tryz.ntmps31
  go_wp2_with (go_at_call 88; refine (nc _ (Below.refl _ _)).mono ?_; rintro e w1 ⟨rfl, hb⟩)
  go_ret2
  exact ⟨rfl, hb⟩
 | true =>
  rw [if_pos rfl] at h
  obtain ⟨g, hg, h⟩ := Option.bind_eq_some_iff.mp h
  have gc := fun W => impl_big.calls k b1 4 g W hg
  obtain ⟨rfl, rfl⟩ := Prod.mk.inj (Option.some.inj h)
  clear h
  go_enter Tryz.func31, Tryz.ntmps31
  go_wp2_with (first | (go_at_call 88; refine (nc _ (Below.refl _ _)).mono ?_; rintro e w1 ⟨rfl, hb⟩) | (go_at_call 89; refine (gc _).mono ?_; rintro e w2 ⟨rfl, hb2⟩; have hb3 := below_then hb hb.size hb2))
  go_ret2
  exact ⟨rfl, hb3⟩
set_option maxHeartbeats 4000000 in
theorem data_mx (k : Nat) (a1 : ByteArray) (r1 : ByteArray) (r2 : Bool) (w : World) (h : dataMx k a1 = some (r1, r2)) (hv : Vars w) :
 Calls Tryz.prog 31 #[.int .i64 15, .string a1] w fun e w' => e = .returned (.tuple #[.string r1, .bool r2]) ∧ Below w.heap.size w w' := by
 unfold dataMx at h
 obtain ⟨⟨c1, c2, c3⟩, hc, h⟩ := Option.bind_eq_some_iff.mp h
 obtain ⟨⟨b1, b2⟩, hb0, h⟩ := Option.bind_eq_some_iff.mp h
 replace h : (if b2 = true then ((impl_isTarget.f c2).bind fun t => (if t = true then ((impl_big.f k b1 2).bind fun g => ((impl_labelBytes.f k c2).bind fun lb => (if g.size + lb.size ≤ 9223372036854775807 then (if g.size + lb.size + 1 ≤ 9223372036854775807 then some ((g ++ lb) ++ (⟨#[0]⟩ : ByteArray), true) else none) else none))) else some badD)) else some badD) = some (r1, r2) := h
 have cutc := fun W => strings_Cut.calls a1 (⟨#[32]⟩ : ByteArray) c1 c2 c3 W hc
 have nc := fun W (hbW : Below w.heap.size w W) => impl_numberIn.calls c1 65535 b1 b2 W hb0 (Vars.below hv hbW)
 clear hv
 cases b2 with
 | false =>
  obtain ⟨rfl, rfl⟩ := Prod.mk.inj (Option.some.inj h)
  clear h
  go_enter Tryz.func31, Tryz.ntmps31
  go_wp2_with (first | (go_at_call 92; refine (cutc _).mono ?_; rintro e w0 ⟨rfl, nd, rfl⟩; have hb0' := pw_below_drewN (Below.refl w.heap.size w) nd) | (go_at_call 88; refine (nc _ hb0').mono ?_; rintro e w1 ⟨rfl, hb⟩; have hb1 := below_then hb0' hb0'.size hb))
  go_ret2
  exact ⟨rfl, hb1⟩
 | true =>
  rw [if_pos rfl] at h
  obtain ⟨t, ht, h⟩ := Option.bind_eq_some_iff.mp h
  have tc := fun W => impl_isTarget.calls c2 t W ht
  cases t with
  | false =>
   obtain ⟨rfl, rfl⟩ := Prod.mk.inj (Option.some.inj h)
   clear h
   go_enter Tryz.func31, Tryz.ntmps31
   go_wp2_with (first | (go_at_call 92; refine (cutc _).mono ?_; rintro e w0 ⟨rfl, nd, rfl⟩; have hb0' := pw_below_drewN (Below.refl w.heap.size w) nd) | (go_at_call 88; refine (nc _ hb0').mono ?_; rintro e w1 ⟨rfl, hb⟩; have hb1 := below_then hb0' hb0'.size hb) | (go_at_call 90; refine (tc _).mono ?_; rintro e w2 ⟨rfl, hbt⟩; have hb2 := below_then hb1 hb1.size hbt))
   go_ret2
   exact ⟨rfl, hb2⟩
  | true =>
   rw [if_pos rfl] at h
   obtain ⟨g, hg, h⟩ := Option.bind_eq_some_iff.mp h
   obtain ⟨lb, hlb, h⟩ := Option.bind_eq_some_iff.mp h
   have gc := fun W => impl_big.calls k b1 2 g W hg
   have lc := fun W => impl_labelBytes.calls k c2 lb W hlb
   by_cases hs : g.size + lb.size ≤ 9223372036854775807
   · rw [if_pos hs] at h
     by_cases hs2 : g.size + lb.size + 1 ≤ 9223372036854775807
     · rw [if_pos hs2] at h
       obtain ⟨rfl, rfl⟩ := Prod.mk.inj (Option.some.inj h)
       have hsa := eq_true hs
       have hsc : (9223372036854775807 < g.size + lb.size) = False := eq_false (by omega)
       have hsa2 := eq_true hs2
       have hsc2 : (9223372036854775807 < g.size + lb.size + 1) = False := eq_false (by omega)
       clear h
       go_enter Tryz.func31, Tryz.ntmps31
       go_wp2_with (first | (go_at_call 92; refine (cutc _).mono ?_; rintro e w0 ⟨rfl, nd, rfl⟩; have hb0' := pw_below_drewN (Below.refl w.heap.size w) nd) | (go_at_call 88; refine (nc _ hb0').mono ?_; rintro e w1 ⟨rfl, hb⟩; have hb1 := below_then hb0' hb0'.size hb) | (go_at_call 90; refine (tc _).mono ?_; rintro e w2 ⟨rfl, hbt⟩; have hb2 := below_then hb1 hb1.size hbt) | (go_at_call 89; refine (gc _).mono ?_; rintro e w3 ⟨rfl, hbg⟩; have hb3 := below_then hb2 hb2.size hbg) | (go_at_call 91; refine (lc _).mono ?_; rintro e w4 ⟨rfl, hbl⟩; have hb4 := below_then hb3 hb3.size hbl))
       go_ret2
       exact ⟨rfl, hb4⟩
     · rw [if_neg hs2] at h; cases h
   · rw [if_neg hs] at h; cases h
set_option maxHeartbeats 4000000 in
theorem data_other (kind : Int) (h1 : kind ≠ 1) (h2 : kind ≠ 2) (h5 : kind ≠ 5) (h6 : kind ≠ 6) (h15 : kind ≠ 15) (h16 : kind ≠ 16) (a1 : ByteArray) (w : World) :
 Calls Tryz.prog 31 #[.int .i64 kind, .string a1] w fun e w' => e = .returned (.tuple #[.string (⟨#[]⟩ : ByteArray), .bool false]) ∧ Below w.heap.size w w' := by
 have g1 : (kind == 1) = false := beq_eq_false_iff_ne.mpr h1
 have g2 : (kind == 2) = false := beq_eq_false_iff_ne.mpr h2
 have g5 : (kind == 5) = false := beq_eq_false_iff_ne.mpr h5
 have g6 : (kind == 6) = false := beq_eq_false_iff_ne.mpr h6
 have g15 : (kind == 15) = false := beq_eq_false_iff_ne.mpr h15
 have g16 : (kind == 16) = false := beq_eq_false_iff_ne.mpr h16
 clear h1 h2 h5 h6 h15 h16
 go_enter Tryz.func31, Tryz.ntmps31
 go_wp2
 go_ret2
 exact ⟨rfl, Below.refl _ _⟩
theorem data_pred (xs : List Int) (W : World) : PredB 94 #[] (.int .u8) (fun c => decide (c < 32) || decide (c > 126)) xs W := by
 intro x hx W' hW
 have e : impl_DataBytes_1.f x = some (decide (x < 32) || decide (x > 126)) := by
  unfold impl_DataBytes_1.f
  by_cases h : x < 32
  · rw [if_pos h, decide_eq_true h]; rfl
  · rw [if_neg h, decide_eq_false h]; rfl
 refine (impl_DataBytes_1.calls x _ W' e).mono ?_
 rintro e w' ⟨he, nd, rfl⟩
 exact ⟨he, pw_below_drewN (Below.refl _ _) nd⟩
theorem bytes_len (s : ByteArray) : (bytesOf s).length = s.size := by
 unfold bytesOf
 simp only [List.length_map]
 exact (size_len s).symm
set_option maxHeartbeats 4000000 in
theorem data_txt (k : Nat) (a1 : ByteArray) (r1 : ByteArray) (r2 : Bool) (w : World) (h : dataTxt k a1 = some (r1, r2)) :
 Calls Tryz.prog 31 #[.int .i64 16, .string a1] w fun e w' => e = .returned (.tuple #[.string r1, .bool r2]) ∧ Below w.heap.size w w' := by
 unfold dataTxt at h
 by_cases h30 : (a1.size : Int) > 30
 · rw [if_pos h30] at h
   obtain ⟨rfl, rfl⟩ := Prod.mk.inj (Option.some.inj h)
   have e1 : decide (30 < a1.size) = true := decide_eq_true (by omega)
   have e2 : decide ((30 : Int) < (a1.size : Int)) = true := decide_eq_true (by omega)
   clear h
   go_enter Tryz.func31, Tryz.ntmps31
   go_wp2
   go_ret2
   exact ⟨rfl, Below.refl _ _⟩
 · rw [if_neg h30] at h
   have e1 : decide (30 < a1.size) = false := decide_eq_false (by omega)
   have e2 : decide ((30 : Int) < (a1.size : Int)) = false := decide_eq_false (by omega)
   have eg : ∀ args w, (callFunc 94 args).run Tryz.prog w = .ok (.enter 94 args) w := enters_of Tryz.func94 (by kernel_rfl) rfl
   have cc0 := fun W c => contains_byte (some ⟨W.heap.size, 0, none⟩) c (bytesOf a1) 94 #[] (fun c => decide (c < 32) || decide (c > 126)) (Lib.bytesWorld W 5 a1) (by
    have hr := bytes_reads W 5 a1 (by omega)
    have := Kd.C_of_reads (d := (0 : Int)) (h1 := fun _ => rfl) hr
    rw [show (bytesOf a1).length = a1.size by rw [bytes_len]]
    exact this) eg (data_pred _ _)
   have hlen : (bytesOf a1).length = a1.size := by rw [bytes_len]
   rw [hlen] at cc0
   generalize hany : (bytesOf a1).any (fun c => decide (c < 32) || decide (c > 126)) = b at h cc0
   have e30 : (30 < a1.size) = False := eq_false (by omega)
   have kb := fun W => print_bytes (P := Tryz.prog) 9 43 5 Tryz.underlying9 Tryz.underlying43 Tryz.underlying5 a1 W
   cases b with
   | true =>
    rw [if_pos rfl] at h
    obtain ⟨rfl, rfl⟩ := Prod.mk.inj (Option.some.inj h)
    clear h h30 hlen hany
    go_enter Tryz.func31, Tryz.ntmps31
    go_wp2_with (go_at_call 93; refine (cc0 _ _).mono ?_; rintro e w1 ⟨rfl, hb⟩; have hb1 := below_then (Lib.bytesWorld_below w 5 a1) (Lib.bytesWorld_below w 5 a1).size hb)
    go_ret2
    exact ⟨rfl, hb1⟩
   | false =>
    rw [if_neg (by simp)] at h
    obtain ⟨g, hg, h⟩ := Option.bind_eq_some_iff.mp h
    have gc := fun W => impl_big.calls k (a1.size : Int) 1 g W hg
    by_cases hs : g.size + a1.size ≤ 9223372036854775807
    · rw [if_pos hs] at h
      obtain ⟨rfl, rfl⟩ := Prod.mk.inj (Option.some.inj h)
      have hsa := eq_true hs
      have hsc : (9223372036854775807 < g.size + a1.size) = False := eq_false (by omega)
      clear h h30 hlen hany
      go_enter Tryz.func31, Tryz.ntmps31
      go_wp2_with (first | (go_at_call 93; refine (cc0 _ _).mono ?_; rintro e w1 ⟨rfl, hb⟩; have hb1 := below_then (Lib.bytesWorld_below w 5 a1) (Lib.bytesWorld_below w 5 a1).size hb) | (go_at_call 89; refine (gc _).mono ?_; rintro e w2 ⟨rfl, hbg⟩; have hb2 := below_then hb1 hb1.size hbg))
      go_ret2
      exact ⟨rfl, hb2⟩
    · rw [if_neg hs] at h; cases h
set_option maxHeartbeats 4000000 in
theorem data_a (k : Nat) (a1 : ByteArray) (parts : List ByteArray) (r1 : ByteArray) (r2 : Bool) (w : World) (hp : strings_Split.f a1 (⟨#[46]⟩ : ByteArray) = some parts) (h : impl_DataBytes.l0 k parts (⟨#[]⟩ : ByteArray) 0 = some (r1, r2)) (hv : Vars w) :
 Calls Tryz.prog 31 #[.int .i64 1, .string a1] w fun e w' => e = .returned (.tuple #[.string r1, .bool r2]) ∧ Below w.heap.size w w' := by
 have sc := fun W => strings_Split.calls a1 (⟨#[46]⟩ : ByteArray) parts W hp
 have HV := Aside0.mk hv
 have H' := Aside0.mk h
 clear h hv hp
 go_enter Tryz.func31, Tryz.ntmps31
 go_wp2_with (go_at_call 87; refine (sc _).mono ?_; rintro e w1 ⟨v, rfl, hR, hbw⟩; have HO := Aside0.mk hR; have HB1 := Aside0.mk hbw; clear hR hbw; obtain ⟨A, c, rfl⟩ := Kd.R_slice HO.out)
 go_loopg [6, 26] k (fun kq v6 v26 wr => ∃ (out : ByteArray) (x : Int), v6 = .string out ∧ v26 = .int .i64 x ∧ Aside0 (impl_DataBytes.l0 kq parts out x = some (r1, r2)) ∧ Aside0 (kq ≤ k) ∧ Aside0 (Kd.C Kd.string wr A parts.length parts) ∧ Aside0 (Below w.heap.size w wr))
 case atStart => exact ⟨(⟨#[]⟩ : ByteArray), 0, rfl, rfl, H', ⟨Nat.le_refl _⟩, ⟨(Kd.R_reads' HO.out).2.2⟩, HB1⟩
 case round =>
  obtain ⟨out, x, rfl, rfl, HA, HK1, HC, BW⟩ := hrel
  cases gk with
  | zero => exact absurd HA.out (by simp [impl_DataBytes.l0])
  | succ k1 =>
   have H := HA.out
   clear HA H'
   simp only [impl_DataBytes.l0] at H
   by_cases c1 : x < (parts.length : Int)
   · rw [if_pos c1] at H
     by_cases c2 : 0 ≤ x
     · rw [if_pos c2] at H
       obtain ⟨⟨b1, b2⟩, hb0, H⟩ := Option.bind_eq_some_iff.mp H
       replace H : (if b2 = true then (if (parts.length : Int) = 4 then ((impl_big.f k1 b1 1).bind fun t => (if out.size + t.size ≤ 9223372036854775807 then impl_DataBytes.l0 k1 parts (out ++ t) (wrap64 (x + 1)) else none)) else some badD) else some badD) = some (r1, r2) := H
       have nc := fun W (hbW : Below w.heap.size w W) => impl_numberIn.calls (rdOf ByteArray.empty parts x) 255 b1 b2 W hb0 (Vars.below HV.out hbW)
       have c1b : decide (x < (parts.length : Int)) = true := decide_eq_true c1
       obtain ⟨ad, e0, hx⟩ := Kd.at_string HC.out x c2 c1
       cases e0
       have c1z := eq_true c1
       have c2z := eq_true c2
       generalize rdOf ByteArray.empty parts x = pv at hb0 nc hx
       clear hb0
       have hbw := BW.out
       cases b2 with
       | false =>
        obtain ⟨rfl, rfl⟩ := Prod.mk.inj (Option.some.inj H)
        clear H
        go_wp2_with (go_at_call 88; refine (nc _ hbw).mono ?_; rintro e w2 ⟨rfl, hb2⟩)
        go_ret2
        exact ⟨rfl, below_then BW.out BW.out.size hb2⟩
       | true =>
        rw [if_pos rfl] at H
        by_cases c4 : (parts.length : Int) = 4
        · rw [if_pos c4] at H
          obtain ⟨g, hg, H⟩ := Option.bind_eq_some_iff.mp H
          have gc := fun W => impl_big.calls k1 b1 1 g W hg
          have c4a : ((parts.length : Int) == 4) = true := by rw [c4]; rfl
          have c4b : (parts.length == 4) = true := by rw [show parts.length = 4 by omega]; rfl
          have c4c : ((parts.length : Int) != 4) = false := by rw [c4]; rfl
          by_cases hs : out.size + g.size ≤ 9223372036854775807
          · rw [if_pos hs] at H
            have hsa := eq_true hs
            have hsc : (9223372036854775807 < out.size + g.size) = False := eq_false (by omega)
            have HN := Aside0.mk H
            clear H hg c4 hs
            go_wp2_with (first | (go_at_call 88; refine (nc _ hbw).mono ?_; rintro e w2 ⟨rfl, hb2⟩) | (go_at_call 89; refine (gc _).mono ?_; rintro e w3 ⟨rfl, hb3⟩; have hb4 := below_then hb2 hb2.size hb3))
            go_roundg k1
            case measure => have := HK1.out; omega
            case rel => exact ⟨out ++ g, wrap64 (x + 1), rfl, rfl, HN, ⟨by have := HK1.out; omega⟩, ⟨Kd.C_below HC.out hb4⟩, ⟨below_then BW.out BW.out.size hb4⟩⟩
          · rw [if_neg hs] at H; cases H
        · rw [if_neg c4] at H
          obtain ⟨rfl, rfl⟩ := Prod.mk.inj (Option.some.inj H)
          have c4a : ((parts.length : Int) == 4) = false := beq_eq_false_iff_ne.mpr c4
          have c4b : (parts.length == 4) = false := beq_eq_false_iff_ne.mpr (by omega)
          have c4c : ((parts.length : Int) != 4) = true := by rw [bne, c4a]; rfl
          clear H c4
          go_wp2_with (go_at_call 88; refine (nc _ hbw).mono ?_; rintro e w2 ⟨rfl, hb2⟩)
          go_ret2
          exact ⟨rfl, below_then BW.out BW.out.size hb2⟩
     · rw [if_neg c2] at H; cases H
   · rw [if_neg c1] at H
     have c1b : decide (x < (parts.length : Int)) = false := decide_eq_false c1
     obtain ⟨rfl, rfl⟩ := Prod.mk.inj (Option.some.inj H)
     clear H
     go_wp2
     go_ret2
     exact ⟨rfl, BW.out⟩
theorem impl_DataBytes.calls (k : Nat) (a0 : Int) (a1 : ByteArray) (r1 : ByteArray) (r2 : Bool) (w : World) (h : impl_DataBytes.f k a0 a1 = some (r1, r2))
 (hv : Vars w := by first | assumption | (refine Vars.below (Aside0.out (by assumption)) ?_; repeat (first | (with_reducible first | exact Below.refl _ _ | exact Aside0.out (by assumption) | apply below_alloc | apply pw_below_drewN | apply below_drew1) | exact Aside0.out (by assumption)))) :
 Calls Tryz.prog 31 #[.int .i64 a0, .string a1] w fun e w' => e = .returned (.tuple #[.string r1, .bool r2]) ∧ Below w.heap.size w w' := by
 unfold impl_DataBytes.f at h
 by_cases c1 : a0 = 1
 · rw [if_pos c1] at h
   subst c1
   obtain ⟨parts, hp, h⟩ := Option.bind_eq_some_iff.mp h
   exact data_a k a1 parts r1 r2 w hp h hv
 · rw [if_neg c1] at h
   by_cases c2 : a0 = 2 ∨ a0 = 5
   · rw [if_pos c2] at h
     exact data_ns k a0 c2 a1 r1 r2 w h hv
   · rw [if_neg c2] at h
     by_cases c6 : a0 = 6
     · rw [if_pos c6] at h
       subst c6
       exact data_soa k a1 r1 r2 w h hv
     · rw [if_neg c6] at h
       by_cases c15 : a0 = 15
       · rw [if_pos c15] at h
         subst c15
         exact data_mx k a1 r1 r2 w h hv
       · rw [if_neg c15] at h
         by_cases c16 : a0 = 16
         · rw [if_pos c16] at h
           subst c16
           exact data_txt k a1 r1 r2 w h
         · rw [if_neg c16] at h
           obtain ⟨rfl, rfl⟩ := Prod.mk.inj (Option.some.inj h)
           exact data_other a0 c1 (fun e => c2 (.inl e)) (fun e => c2 (.inr e)) c6 c15 c16 a1 w
end Go.Proofs.YtiegkjimpclmaaaGreatDoor.P
namespace Go.Proofs.YtiegkjimpclmaaaGreatDoor.Pure
open Go.Proofs.YtiegkjimpclmaaaGreatDoor.P
theorem specGood_ev (s : ByteArray) (hs : s.size < 549755813888) : Ev (fun k => spec_GoodName.f k s) (goodL s.data.toList) := by
 obtain ⟨r, h1, h2⟩ := good_ev s hs
 refine Ev.congr (f := fun k => (spec_l1Labels.f k s).bind fun bt => some bt.2) (fun k => rfl) (Ev.bind h1 ?_)
 rw [h2]
 exact Ev.now _
theorem good_size {l : List UInt8} (h : goodL l = true) : l.length ≤ 60 := by
 unfold goodL at h
 simp at h
 exact h.1
def digB (b : UInt8) : Bool := decide (48 ≤ b.toNat ∧ b.toNat ≤ 57)
def valF (a : Nat) (l : List UInt8) : Nat := l.foldl (fun a b => a * 10 + (b.toNat - 48)) a
def valL (l : List UInt8) : Nat := valF 0 l
def canL (l : List UInt8) : Bool := decide (1 ≤ l.length ∧ l.length ≤ 10) && l.all digB && (decide (l.length = 1) || decide (l.head? ≠ some 48))
theorem valF_app (a : Nat) (p q : List UInt8) : valF a (p ++ q) = valF (valF a p) q := by unfold valF; rw [List.foldl_append]
theorem valF_one (a : Nat) (b : UInt8) : valF a [b] = a * 10 + (b.toNat - 48) := rfl
theorem decFrom_val : ∀ (l : List UInt8) (a : Nat), l.all digB = true → Lib.decFrom a l = some (valF a l)
 | [], a, _ => rfl
 | b :: r, a, h => by
  rw [List.all_cons, Bool.and_eq_true] at h
  have hb : 48 ≤ b.toNat ∧ b.toNat ≤ 57 := of_decide_eq_true h.1
  unfold Lib.decFrom Lib.digitVal
  rw [if_pos hb]
  exact decFrom_val r _ h.2
theorem valF_lt : ∀ (l : List UInt8) (a : Nat), l.all digB = true → valF a l < (a + 1) * 10 ^ l.length
 | [], a, _ => by show a < (a + 1) * 10 ^ 0; omega
 | b :: r, a, h => by
  rw [List.all_cons, Bool.and_eq_true] at h
  have hb : 48 ≤ b.toNat ∧ b.toNat ≤ 57 := of_decide_eq_true h.1
  have ih := valF_lt r (a * 10 + (b.toNat - 48)) h.2
  show valF (a * 10 + (b.toNat - 48)) r < _
  rw [List.length_cons, Nat.pow_succ]
  have h1 : (a * 10 + (b.toNat - 48) + 1) * 10 ^ r.length ≤ ((a + 1) * 10) * 10 ^ r.length := Nat.mul_le_mul_right _ (by omega)
  have h2 : ((a + 1) * 10) * 10 ^ r.length = (a + 1) * (10 ^ r.length * 10) := by rw [Nat.mul_assoc, Nat.mul_comm 10]
  omega
theorem digits_all : ∀ (n u : Nat), u ≤ n → (Lib.decDigits u).all digB = true ∧ valL (Lib.decDigits u) = u ∧ 1 ≤ (Lib.decDigits u).length ∧ (1 ≤ u → (Lib.decDigits u).head? ≠ some 48)
 | n, u, hu => by
  unfold Lib.decDigits
  by_cases h : u < 10
  · rw [dif_pos h]
    have hb : (UInt8.ofNat (48 + u)).toNat = 48 + u := by rw [UInt8.toNat_ofNat']; omega
    refine ⟨?_, ?_, by simp, fun h1 => ?_⟩
    · rw [List.all_cons, List.all_nil, Bool.and_true]; unfold digB; rw [hb]; exact decide_eq_true (by omega)
    · show 0 * 10 + ((UInt8.ofNat (48 + u)).toNat - 48) = u; rw [hb]; omega
    · intro e
      have e2 := congrArg UInt8.toNat (Option.some.inj e)
      rw [hb] at e2
      have : (48 : UInt8).toNat = 48 := rfl
      omega
  · rw [dif_neg h]
    match n, hu with
    | 0, hu => omega
    | n + 1, hu =>
     obtain ⟨g1, g2, g3, g4⟩ := digits_all n (u / 10) (by omega)
     have hb : (UInt8.ofNat (48 + u % 10)).toNat = 48 + u % 10 := by rw [UInt8.toNat_ofNat']; omega
     refine ⟨?_, ?_, by rw [List.length_append]; omega, fun _ => ?_⟩
     · rw [List.all_append, g1, Bool.true_and, List.all_cons, List.all_nil, Bool.and_true]; unfold digB; rw [hb]; exact decide_eq_true (by omega)
     · unfold valL at g2 ⊢; rw [valF_app, g2, valF_one, hb]; omega
     · have g5 := g4 (by omega)
       cases hd : Lib.decDigits (u / 10) with
       | nil => rw [hd] at g3; simp at g3
       | cons x r => rw [hd] at g5; simpa using g5
theorem digits_back : ∀ (n : Nat) (l : List UInt8), l.length ≤ n → l ≠ [] → l.all digB = true → (l.length = 1 ∨ l.head? ≠ some 48) → Lib.decDigits (valL l) = l
 | n, l, hn, hne, ha, hh => by
  rcases List.eq_nil_or_concat l with rfl | ⟨p, b, rfl⟩
  · exact absurd rfl hne
  · rw [List.concat_eq_append] at *
    rw [List.all_append, Bool.and_eq_true, List.all_cons, Bool.and_eq_true] at ha
    have hb : 48 ≤ b.toNat ∧ b.toNat ≤ 57 := of_decide_eq_true ha.2.1
    have hv : valL (p ++ [b]) = valL p * 10 + (b.toNat - 48) := by unfold valL; rw [valF_app, valF_one]
    have hbb : UInt8.ofNat (48 + (b.toNat - 48)) = b := by rw [show 48 + (b.toNat - 48) = b.toNat by omega]; exact UInt8.ofNat_toNat
    rw [hv]
    by_cases hp : p = []
    · subst hp
      unfold Lib.decDigits
      rw [show valL [] = 0 from rfl, dif_pos (by omega), Nat.zero_mul, Nat.zero_add, hbb]
      rfl
    · match n, hn with
      | 0, hn => simp at hn
      | n + 1, hn =>
       have hpl := List.length_pos_iff.2 hp
       have hhp : p.head? ≠ some 48 := by
        rcases hh with hh | hh
        · rw [List.length_append] at hh; simp at hh; exact absurd hh hp
        · cases p with
          | nil => exact absurd rfl hp
          | cons x r => simpa using hh
       have ih := digits_back n p (by simp at hn; omega) hp ha.1 (.inr hhp)
       have hpos : 1 ≤ valL p := by
        cases p with
        | nil => exact absurd rfl hp
        | cons x r =>
         rw [List.all_cons, Bool.and_eq_true] at ha
         have hx : 48 ≤ x.toNat ∧ x.toNat ≤ 57 := of_decide_eq_true ha.1.1
         have hx2 : x.toNat ≠ 48 := fun e => hhp (by show some x = some 48; rw [show x = 48 from UInt8.toNat_inj.1 e])
         have mono : ∀ (r : List UInt8) (a : Nat), a ≤ valF a r := by
          intro r
          induction r with
          | nil => intro a; exact Nat.le_refl _
          | cons y r ihr => intro a; have := ihr (a * 10 + (y.toNat - 48)); show a ≤ valF (a * 10 + (y.toNat - 48)) r; omega
         have := mono r (0 * 10 + (x.toNat - 48))
         show 1 ≤ valF (0 * 10 + (x.toNat - 48)) r
         omega
       unfold Lib.decDigits
       rw [dif_neg (by omega), show (valL p * 10 + (b.toNat - 48)) / 10 = valL p by omega, show (valL p * 10 + (b.toNat - 48)) % 10 = b.toNat - 48 by omega, ih, hbb]
theorem can_val {l : List UInt8} (h : canL l = true) : valL l < 10000000000 := by
 unfold canL at h
 simp only [Bool.and_eq_true, decide_eq_true_eq] at h
 have h1 := valF_lt l 0 h.1.2
 have h2 : 10 ^ l.length ≤ 10 ^ 10 := Nat.pow_le_pow_right (by omega) h.1.1.2
 unfold valL
 omega
theorem digits_many : ∀ (k u : Nat), k + 1 < Lib.nDigits u → 10 ^ (k + 1) ≤ u
 | 0, u, h => by
  by_cases hu : u < 10
  · rw [Lib.nDigits_small hu] at h; omega
  · omega
 | k + 1, u, h => by
  by_cases hu : u < 10
  · rw [Lib.nDigits_small hu] at h; omega
  · rw [Lib.nDigits_big hu] at h
    have ih := digits_many k (u / 10) (by omega)
    rw [Nat.pow_succ]
    omega
theorem number_eq (s : ByteArray) (most : Int) (hs : s.size ≤ 281474976710656) (h0 : 0 ≤ most) (h1 : most < 9999999999) : ∃ v, impl_numberIn.f s most = some (v, canL s.data.toList && decide ((valL s.data.toList : Int) ≤ most)) ∧ ((canL s.data.toList && decide ((valL s.data.toList : Int) ≤ most)) = true → v = (valL s.data.toList : Int)) := by
 unfold impl_numberIn.f
 rw [if_pos hs, Lib.toList_data]
 generalize hl : s.data.toList = l
 by_cases hc : canL l = true
 · have hc' := hc
   unfold canL at hc'
   simp only [Bool.and_eq_true, Bool.or_eq_true, decide_eq_true_eq] at hc'
   have hv := can_val hc
   have hne : l ≠ [] := by rintro rfl; simp at hc'
   have hat : Lib.atoiAll l = .ok (valL l : Int) := by
    rw [Lib.atoiAll_short l (by omega)]
    cases l with
    | nil => exact absurd rfl hne
    | cons b r =>
     have ha := hc'.1.2
     rw [List.all_cons, Bool.and_eq_true] at ha
     have hb : 48 ≤ b.toNat ∧ b.toNat ≤ 57 := of_decide_eq_true ha.1
     have n45 : (b == 45) = false := beq_eq_false_iff_ne.mpr fun e => by rw [e] at hb; have : (45 : UInt8).toNat = 45 := rfl; omega
     have n43 : (b == 43) = false := beq_eq_false_iff_ne.mpr fun e => by rw [e] at hb; have : (43 : UInt8).toNat = 43 := rfl; omega
     unfold Lib.atoi Lib.decNat
     show Lib.NumEnd.ofOption (if (b == 45) = true then _ else (if (b == 43) = true then _ else Option.map (fun (m : Nat) => (m : Int)) (if (b :: r).isEmpty = true then none else Lib.decFrom 0 (b :: r)))) = _
     rw [n45, n43, if_neg (by simp), if_neg (by simp), if_neg (by simp), decFrom_val _ 0 hc'.1.2]
     rfl
   have hit : Lib.itoa (valL l : Int) = l := by
    rw [Lib.itoa_nonneg]
    exact digits_back l.length l (Nat.le_refl _) hne hc'.1.2 hc'.2
   rw [hat]
   refine ⟨(valL l : Int), ?_, fun _ => rfl⟩
   simp only [hit, beq_self_eq_true, Bool.and_true, hc, Bool.true_and]
   congr 2
   rw [decide_eq_decide]
   omega
 · rw [Bool.eq_false_iff.mpr hc, Bool.false_and]
   cases ha : Lib.atoiAll l
   · next v =>
     refine ⟨v, ?_, fun h => by cases h⟩
     show some (v, decide (0 ≤ v ∧ v ≤ most) && (Lib.itoa v == l)) = some (v, false)
     congr 2
     rw [Bool.and_eq_false_iff]
     by_cases hv : 0 ≤ v ∧ v ≤ most
     · right
       rw [beq_eq_false_iff_ne]
       intro e
       apply hc
       obtain ⟨u, rfl⟩ : ∃ u : Nat, v = (u : Int) := ⟨v.toNat, by omega⟩
       rw [Lib.itoa_nonneg] at e
       obtain ⟨g1, g2, g3, g4⟩ := digits_all u u (Nat.le_refl _)
       have hlen : (Lib.decDigits u).length ≤ 10 := by
        rw [Lib.decDigits_length]
        by_cases h10 : u < 10
        · rw [Lib.nDigits_small h10]; omega
        · by_cases hbig : Lib.nDigits u ≤ 10
          · exact hbig
          · have := digits_many 9 u (by omega)
            omega
       rw [← e]
       unfold canL
       rw [g1, decide_eq_true (by omega), Bool.true_and, Bool.true_and, Bool.or_eq_true]
       by_cases hu : 1 ≤ u
       · exact .inr (decide_eq_true (g4 hu))
       · left
         obtain rfl : u = 0 := by omega
         rw [Lib.decDigits_one (by omega)]
         rfl
     · left
       exact decide_eq_false hv
   · exact ⟨0, rfl, fun h => by cases h⟩
   · exact ⟨_, rfl, fun h => by cases h⟩
def numS (l : List UInt8) : Int := if canL l = true then (valL l : Int) else -1
theorem int_loop (s : ByteArray) (hs : s.size ≤ 10) : ∀ (m i a : Nat), i + m = s.size → a = valL (s.data.toList.take i) → (s.data.toList.take i).all digB = true →
 Ev (fun k => spec_l1Int.l0 k s (a : Int) (i : Int)) (if s.data.toList.all digB = true then (valL s.data.toList : Int) else -1)
 | 0, i, a, him, ha, hd => by
  rw [List.take_of_length_le (by rw [← size_len]; omega)] at ha hd
  rw [if_pos hd, ← ha]
  refine Ev.step (f := fun _ => some (a : Int)) (fun k => ?_) (Ev.now _)
  show spec_l1Int.l0 (k + 1) s (a : Int) (i : Int) = _
  conv => lhs; unfold spec_l1Int.l0
  rw [if_neg (by omega)]
 | m + 1, i, a, him, ha, hd => by
  have hi : i < s.data.toList.length := by rw [← size_len]; omega
  have hbt := bt_list s i hi
  have htk : s.data.toList.take (i + 1) = s.data.toList.take i ++ [s.data.toList[i]] := by rw [List.take_add_one, List.getElem?_eq_getElem hi]; rfl
  have halt : a < 10 ^ 10 := by
   have := valF_lt _ 0 hd
   have h2 : 10 ^ (s.data.toList.take i).length ≤ 10 ^ 10 := Nat.pow_le_pow_right (by omega) (by rw [List.length_take]; omega)
   rw [ha]
   unfold valL
   omega
  by_cases hb : digB s.data.toList[i] = true
  · have hb' : 48 ≤ (s.data.toList[i]).toNat ∧ (s.data.toList[i]).toNat ≤ 57 := of_decide_eq_true hb
    have ih := int_loop s hs m (i + 1) (a * 10 + ((s.data.toList[i]).toNat - 48)) (by omega) (by rw [htk]; unfold valL at ha ⊢; rw [valF_app, ← ha, valF_one]) (by rw [htk, List.all_append, hd, Bool.true_and, List.all_cons, hb]; rfl)
    refine Ev.step (fun k => ?_) ih
    show spec_l1Int.l0 (k + 1) s (a : Int) (i : Int) = _
    conv => lhs; unfold spec_l1Int.l0
    have hw : wrap64 ((wrap64 (10 * (a : Int))) + ((((s.data.toList[i]).toNat : Int) - 48) % 256)) = ((a * 10 + ((s.data.toList[i]).toNat - 48) : Nat) : Int) := by
     have h1 : wrap64 (10 * (a : Int)) = 10 * (a : Int) := by unfold wrap64; omega
     rw [h1]
     unfold wrap64
     omega
    rw [if_pos (by omega), if_pos (by omega), hbt, if_neg (by omega), if_neg (by omega), hw, w64n (by omega)]
  · have hall : s.data.toList.all digB = false := by
     rw [List.all_eq_false]
     exact ⟨_, List.getElem_mem hi, hb⟩
    rw [hall, if_neg (by simp)]
    have hb' : ¬ (48 ≤ (s.data.toList[i]).toNat ∧ (s.data.toList[i]).toNat ≤ 57) := of_decide_eq_false (Bool.eq_false_iff.mpr hb)
    refine Ev.step (f := fun _ => some (-1)) (fun k => ?_) (Ev.now _)
    show spec_l1Int.l0 (k + 1) s (a : Int) (i : Int) = _
    conv => lhs; unfold spec_l1Int.l0
    rw [if_pos (by omega), if_pos (by omega), hbt]
    by_cases h1 : ((s.data.toList[i]).toNat : Int) < 48
    · rw [if_pos h1]
    · rw [if_neg h1, if_pos (by omega)]
theorem int_ev (s : ByteArray) (hs : s.size < 4611686018427387904) : Ev (fun k => spec_l1Int.f k s) (numS s.data.toList) := by
 have hj : Ev (fun k => spec_l1Int.j0 k s true) (-1) := Ev.step (f := fun _ => some (-1)) (fun k => rfl) (Ev.now _)
 have hin : spec_l1In.f (s.size : Int) 1 10 = some (decide (1 ≤ (s.size : Int) ∧ (s.size : Int) ≤ 10)) := within_spec _ _ _
 by_cases h1 : 1 ≤ (s.size : Int) ∧ (s.size : Int) ≤ 10
 · have hlen : 0 < s.data.toList.length := by rw [← size_len]; omega
   have hbt := bt_list s 0 hlen
   have hmain : ∀ ld : Bool, ld = decide (s.data.toList.head? = some 48 ∧ s.size > 1) → Ev (fun k => spec_l1Int.j0 k s ld) (numS s.data.toList) := by
    intro ld hld
    cases ld with
    | true =>
     have h2 := of_decide_eq_true hld.symm
     have : canL s.data.toList = false := by
      unfold canL
      rw [decide_eq_false (show ¬ s.data.toList.length = 1 by rw [← size_len]; omega), decide_eq_false (show ¬ s.data.toList.head? ≠ some 48 from fun h => h h2.1), Bool.or_false, Bool.and_false]
     unfold numS
     rw [this, if_neg (by simp)]
     exact hj
    | false =>
     have h2 := of_decide_eq_false hld.symm
     have hl := int_loop s (by omega) s.size 0 0 (by omega) rfl rfl
     have e : (if s.data.toList.all digB = true then (valL s.data.toList : Int) else -1) = numS s.data.toList := by
      unfold numS canL
      rw [decide_eq_true (show 1 ≤ s.data.toList.length ∧ s.data.toList.length ≤ 10 by rw [← size_len]; omega), Bool.true_and]
      have h3 : (decide (s.data.toList.length = 1) || decide (s.data.toList.head? ≠ some 48)) = true := by
       rw [Bool.or_eq_true]
       by_cases h4 : s.data.toList.head? = some 48
       · exact .inl (decide_eq_true (by rw [← size_len]; have : ¬ s.size > 1 := fun h5 => h2 ⟨h4, h5⟩; omega))
       · exact .inr (decide_eq_true h4)
      rw [h3, Bool.and_true]
     rw [← e]
     exact Ev.step (fun k => rfl) hl
   have hhead : s.data.toList.head? = some (s.data.toList[0]) := by rw [List.head?_eq_getElem?, List.getElem?_eq_getElem hlen]
   refine Ev.congr (f := fun k => spec_l1Int.j0 k s (decide (s.data.toList.head? = some 48 ∧ s.size > 1))) (fun k => ?_) (hmain _ rfl)
   unfold spec_l1Int.f
   rw [hin, Option.bind_some, decide_eq_true h1, if_pos rfl, if_pos (by omega)]
   have hb0 : bt s 0 = ((s.data.toList[0]).toNat : Int) := hbt
   rw [hb0, hhead]
   by_cases h48 : s.data.toList[0] = 48
   · rw [if_pos (by rw [h48]; rfl)]
     congr 1
     rw [decide_eq_decide]
     constructor
     · intro h; exact ⟨by rw [h48], by omega⟩
     · intro h; omega
   · rw [if_neg (fun h => h48 (UInt8.toNat_inj.1 (by have : (48 : UInt8).toNat = 48 := rfl; omega)))]
     congr 1
     rw [eq_comm, decide_eq_false_iff_not]
     rintro ⟨h, _⟩
     exact h48 (Option.some.inj h)
 · have : canL s.data.toList = false := by
    unfold canL
    rw [decide_eq_false (show ¬ (1 ≤ s.data.toList.length ∧ s.data.toList.length ≤ 10) by rw [← size_len]; omega)]
    rfl
   unfold numS
   rw [this, if_neg (by simp)]
   refine Ev.congr (fun k => ?_) hj
   unfold spec_l1Int.f
   rw [hin, Option.bind_some, decide_eq_false h1, if_neg (by simp)]
end Go.Proofs.YtiegkjimpclmaaaGreatDoor.Pure
namespace Go.Proofs.YtiegkjimpclmaaaGreatDoor.P
attribute [local go_sem] max2_int min2_int max_two min_two max_three min_three max_four min_four
mutual
def spec_RecordsOf.l0 : Nat → List (S83) → List (S45) → List (S83) → Int → Int → Option ((List (S45)) × Bool)
 | 0, _, _, _, _, _ => none
 | k + 1, x0, x4, x13, x14, x15 => if x15 < x14 then (if 0 ≤ x15 then (if x15 < (x13.length : Int) then (if (((rd_T83 x13 x15).f3).length : Int) = 0 then (some (([] : List (S45)), false)) else (spec_RecordsOf.l1 k x0 x4 x13 x14 x15 ((rd_T83 x13 x15).f3) (((rd_T83 x13 x15).f3).length : Int) 0 ((rd_T83 x13 x15).f0) ((rd_T83 x13 x15).f1) ((rd_T83 x13 x15).f2) ((rd_T83 x13 x15).f3))) else (none)) else (none)) else ((spec_l3Sets.f k x4).bind fun bt342 => (if bt342.2 = true then (if (x4.length : Int) > 60 then (spec_RecordsOf.j3 k x4 true) else (spec_RecordsOf.j3 k x4 ((bt342.1.length : Int) != (x0.length : Int)))) else (spec_RecordsOf.j3 k x4 true)))
def spec_RecordsOf.l1 : Nat → List (S83) → List (S45) → List (S83) → Int → Int → List ByteArray → Int → Int → ByteArray → Int → Int → List ByteArray → Option ((List (S45)) × Bool)
 | 0, _, _, _, _, _, _, _, _, _, _, _, _ => none
 | k + 1, x0, x4, x13, x14, x15, x24, x25, x26, x334000, x334001, x334002, x334003 => if x26 < x25 then (if 0 ≤ x26 then (if x26 < (x24.length : Int) then ((spec_GoodRecord.f k x334000 x334001 x334002 (rdOf ByteArray.empty x24 x26)).bind fun t336 => (if t336 = true then (if (x4.length : Int) > 0 then (if 0 ≤ (wrap64 ((x4.length : Int) - 1)) then (if (wrap64 ((x4.length : Int) - 1)) < (x4.length : Int) then ((spec_l3Compare.f k ((rd_T45 x4 (wrap64 ((x4.length : Int) - 1))).f0) ((rd_T45 x4 (wrap64 ((x4.length : Int) - 1))).f1) ((rd_T45 x4 (wrap64 ((x4.length : Int) - 1))).f2) ((rd_T45 x4 (wrap64 ((x4.length : Int) - 1))).f3) x334000 x334001 x334002 (rdOf ByteArray.empty x24 x26)).bind fun t338 => (spec_RecordsOf.j2 k x0 x4 x13 x14 x15 x24 x25 x26 (decide (t338 ≥ 0)) x334000 x334001 x334002 x334003 x334000 x334001 x334002 (rdOf ByteArray.empty x24 x26))) else (none)) else (none)) else (spec_RecordsOf.j2 k x0 x4 x13 x14 x15 x24 x25 x26 false x334000 x334001 x334002 x334003 x334000 x334001 x334002 (rdOf ByteArray.empty x24 x26))) else (some (([] : List (S45)), false)))) else (none)) else (none)) else (spec_RecordsOf.l0 k x0 x4 x13 x14 (wrap64 (x15 + 1)))
def spec_RecordsOf.j2 : Nat → List (S83) → List (S45) → List (S83) → Int → Int → List ByteArray → Int → Int → Bool → ByteArray → Int → Int → List ByteArray → ByteArray → Int → Int → ByteArray → Option ((List (S45)) × Bool)
 | 0, _, _, _, _, _, _, _, _, _, _, _, _, _, _, _, _, _ => none
 | k + 1, x0, x4, x13, x14, x15, x24, x25, x26, x54, x334000, x334001, x334002, x334003, x336000, x336001, x336002, x336003 => if x54 = true then (some (([] : List (S45)), false)) else (if x4.length < 2932031007402 then (spec_RecordsOf.l1 k x0 (x4 ++ [(⟨x336000, x336001, x336002, x336003⟩ : S45)]) x13 x14 x15 x24 x25 (wrap64 (x26 + 1)) x334000 x334001 x334002 x334003) else (none))
def spec_RecordsOf.j3 : Nat → List (S45) → Bool → Option ((List (S45)) × Bool)
 | 0, _, _ => none
 | k + 1, x4, x79 => if x79 = true then (some (([] : List (S45)), false)) else (some (x4, true))
end
def spec_RecordsOf.f (k : Nat) (l0 : List (S83)) : Option ((List (S45)) × Bool) := spec_RecordsOf.l0 k l0 ([] : List (S45)) l0 (l0.length : Int) 0
def spec_RecordsOf.T14 : Bool × List (List Nat × List Nat) := (true, [([], []), ([0], [0]), ([1], [1]), ([2], [2]), ([2], [2]), ([4, 2], [2, 4]), ([3, 5, 2], [2, 3, 5]), ([6, 2], [2, 6]), ([2], [2]), ([7, 8, 2, 2], [2, 7, 8]), ([9, 2], [2, 9]), ([2, 10], [2, 10])])
def spec_RecordsOf.B14 : List Nat := [0, 1, 3, 7, 7, 23, 63, 127, 7, 511, 1023, 2047]
theorem spec_RecordsOf.tab14 : rtab .any (opsOf Tryz.f13 14) = spec_RecordsOf.T14 := by kernel_rfl
theorem spec_RecordsOf.bits14 : waitsOk spec_RecordsOf.T14.2 spec_RecordsOf.B14 = true := by kernel_rfl
theorem spec_RecordsOf.calls (k : Nat) (A0 : Option Addr) (c0 : Nat) (l0 : List (S83)) (r1 : List (S45)) (r2 : Bool) (w : World) (hr0 : Kd.C k83 w A0 l0.length l0) (hc0 : l0.length ≤ c0) (h : spec_RecordsOf.f k l0 = some (r1, r2)) :
 Calls Tryz.prog 13 #[.slice A0 l0.length c0] w fun e w' => ∃ v0_ : Value, e = .returned (.tuple #[v0_, .bool r2]) ∧ Kd.R k45 45 w' w.heap.size (fun _ => True) v0_ r1 ∧ Below w.heap.size w w' := by
 have hu83 := Tryz.underlying83
 have hu45 := Tryz.underlying45
 have HR0 := a0_ hr0
 have HC0 := a0_ hc0
 clear hr0 hc0
 have HB := a0_ (Below.refl w.heap.size w)
 have H := h
 clear h
 unfold spec_RecordsOf.f at H
 have H' := a0_ H
 clear H
 go_enter Tryz.func13, Tryz.ntmps13
 go_wp2
 go_loopg [4, 15] k (fun kq v4 v15 w' => ∃ (x4_1 : List (S45)) (x15_1 : Int), v15 = .int .i64 x15_1 ∧ Aside0 (spec_RecordsOf.l0 kq l0 x4_1 l0 (l0.length : Int) x15_1 = some (r1, r2)) ∧ Aside0 (kq ≤ k) ∧ Aside0 (Kd.R k45 45 w' w.heap.size (fun _ => True) v4 x4_1) ∧ Aside0 (Below w.heap.size w w'))
 case atStart => exact ⟨(([] : List (S45))), (0), rs_, H', ⟨Nat.le_refl _⟩, ⟨by first | exact Kd.R_nil _ _ _ _ _ | exact Kd.N_nil _ _ _ _ _ | exact Kd.V_nil _ _ _ _ _ | exact Kd.Q_nil _ _ _ _ _ | exact Kd.S_nil _ _ _ _ _⟩, ⟨bq0_⟩⟩
 case round =>
  clear H'
  obtain ⟨x4_1, x15_1, rfl, HA, HK1, HO_4, HB⟩ := hrel
  cases gk with
  | zero => exact absurd HA.out (by simp [spec_RecordsOf.l0])
  | succ k1 =>
   have H := HA.out
   clear HA
   simp only [spec_RecordsOf.l0] at H
   by_cases c2 : x15_1 < (l0.length : Int)
   case neg =>
    rw [if_neg c2] at H
    have c2b0 := decide_eq_false c2
    clear c2
    obtain ⟨⟨t342, t343⟩, A40, H⟩ := ob_ H
    have HC41 := a0_ H
    clear H
    obtain ⟨Ao42, co42, eo42⟩ := Kd.R_slice HO_4.out
    subst eo42
    go_upto_region 20 with (first | ((with_reducible refine gt_ 63 rfl ?_); refine gs_ 63 Tryz.func63 #[.slice Ao42 x4_1.length co42] ?_; (with_reducible refine (spec_l3Sets.calls k1 _ _ x4_1 t342 t343 _ ?side1 ?side2 A40.out).mono ?_); (case side1 => exact kD_ (Kd.R_reads' HO_4.out).2.2); (case side2 => exact (Kd.R_reads' HO_4.out).2.1); rintro e w43 ⟨v344, rfl, ho0, hb⟩; refine ⟨_, rfl, ?_⟩; replace HO_4 := a0_ (Kd.R_below (kR_ HO_4.out) hb); have HO345 := a0_ (Kd.S_lower ho0 (below_size bq0_)); replace HB := a0_ (below_step bq0_ hb); clear hb; (try clear ho0)))
    (try simp only [Act.put, List.setIfInBounds_toArray, List.set_cons_zero, List.set_cons_succ])
    go_cut [79] (fun v79 wc => ∃ (kq : Nat) (x79_40 : Bool), v79 = .bool x79_40 ∧ Aside0 (spec_RecordsOf.j3 kq x4_1 x79_40 = some (r1, r2)) ∧ Aside0 (kq ≤ k1) ∧ Aside0 (Kd.R k45 45 wc w.heap.size (fun _ => True) (.slice Ao42 x4_1.length co42) x4_1) ∧ Aside0 (Below w.heap.size w wc))
    case first =>
     have H := HC41.out
     clear HC41
     by_cases c44 : t343 = true
     case neg =>
      replace c44 := Bool.eq_false_iff.mpr c44
      subst c44
      rw [if_neg ff_] at H
      have H' := a0_ H
      clear H
      go_wp2
      go_meet
      case rel => exact ⟨_, (true), rs_, H', jl_ HK1, ⟨kR_ HO_4.out⟩, ⟨bq0_⟩⟩
     subst c44
     rw [if_pos rfl] at H
     by_cases c45 : (x4_1.length : Int) > 60
     case pos =>
      rw [if_pos c45] at H
      have c45b0 := decide_eq_true c45
      have c45b1 : decide (60 < x4_1.length) = true := decide_eq_true (by omega)
      clear c45
      (first | rw [c45b0] | (simp only [i64_w, i32_w]; rw [c45b0]) | skip)
      have H' := a0_ H
      clear H
      go_wp2
      go_meet
      case rel => exact ⟨_, (true), rs_, H', jl_ HK1, ⟨kR_ HO_4.out⟩, ⟨bq0_⟩⟩
     rw [if_neg c45] at H
     have c45b0 := decide_eq_false c45
     have c45b1 : decide (60 < x4_1.length) = false := decide_eq_false (by omega)
     clear c45
     (first | rw [c45b0] | (simp only [i64_w, i32_w]; rw [c45b0]) | skip)
     have H' := a0_ H
     clear H
     obtain ⟨Ao46, co46, eo46⟩ := Kd.S_slice HO345.out
     subst eo46
     go_wp2
     go_meet
     case rel => exact ⟨_, (((t342.length : Int) != (l0.length : Int))), rs_, H', jl_ HK1, ⟨kR_ HO_4.out⟩, ⟨bq0_⟩⟩
    case rest =>
     clear HC41
     try clear c1
     try clear c2
     try clear c2b0
     obtain ⟨kq, x79_40, rfl, HA, HJ40, HO_4, HB⟩ := hcut
     cases kq with
     | zero => exact absurd HA.out (by simp [spec_RecordsOf.j3])
     | succ kj40 =>
      have H := HA.out
      clear HA
      simp only [spec_RecordsOf.j3] at H
      by_cases c47 : x79_40 = true
      case pos =>
       subst c47
       rw [if_pos rfl] at H
       simp only [Option.some.injEq, Prod.mk.injEq] at H
       obtain ⟨rfl, rfl⟩ := H
       go_wp2
       go_ret2
       exact ⟨_, rr_, by first | exact Kd.R_nil _ _ _ _ _ | exact Kd.N_nil _ _ _ _ _ | exact Kd.V_nil _ _ _ _ _ | exact Kd.Q_nil _ _ _ _ _ | exact Kd.S_nil _ _ _ _ _, bq0_⟩
      replace c47 := Bool.eq_false_iff.mpr c47
      subst c47
      rw [if_neg ff_] at H
      simp only [Option.some.injEq, Prod.mk.injEq] at H
      obtain ⟨rfl, rfl⟩ := H
      go_wp2
      go_ret2
      exact ⟨_, rr_, kR_ HO_4.out, bq0_⟩
   rw [if_pos c2] at H
   have c2b0 := decide_eq_true c2
   clear c2
   by_cases c3 : 0 ≤ x15_1
   case neg =>
    rw [if_neg c3] at H
    exact absurd H (by simp)
   rw [if_pos c3] at H
   have c3b0 := decide_eq_true c3
   clear c3
   by_cases c4 : x15_1 < (l0.length : Int)
   case neg =>
    rw [if_neg c4] at H
    exact absurd H (by simp)
   rw [if_pos c4] at H
   have c4b0 := decide_eq_true c4
   clear c4
   by_cases c5 : (((rd_T83 l0 x15_1).f3).length : Int) = 0
   case pos =>
    rw [if_pos c5] at H
    have c5b0 := beq_iff_eq.mpr c5
    have c5b1 := bne_eq_false_iff_eq.mpr c5
    clear c5
    simp only [Option.some.injEq, Prod.mk.injEq] at H
    obtain ⟨rfl, rfl⟩ := H
    have p332 := t0_ (x15_1)
    have q332 := tl_ (x15_1) (l0.length)
    obtain ⟨ad332, A332_3, c332_3, e332, -, -, -, -, hx332_0, hx332_1, hx332_2, hx332_3, HR332_3, HC332_3⟩ := ri_ HB (at_T83 HR0.out x15_1 (of_eq_true p332) (of_eq_true q332))
    cases e332
    go_wp2_with (first | ((with_reducible refine gate_dst (N := 6) rfl ?_); (try (refine gate_guard (by rfl) ?_; dsimp only)); refine boxS_ 6 #[.string (⟨#[]⟩ : ByteArray), .int .i64 0, .int .i64 0, .slice none 0 0] 83 (fun gb333 hg w6 hbox hb => ?_); replace HO_4 := a0_ (Kd.R_below (kR_ HO_4.out) hb); have BK333 := a0_ (hbox); have GW333 := a0_ (gw_ hg : w.heap.size ≤ gb333); replace HB := a0_ (below_step bq0_ hb); have GE333 := GW333; clear hb hbox hg; obtain ⟨z7_0, z7_1, z7_2, z7_3, q7_0, q7_1, q7_2, q7_3⟩ := bk4_ BK333.out))
    go_ret2
    exact ⟨_, rr_, by first | exact Kd.R_nil _ _ _ _ _ | exact Kd.N_nil _ _ _ _ _ | exact Kd.V_nil _ _ _ _ _ | exact Kd.Q_nil _ _ _ _ _ | exact Kd.S_nil _ _ _ _ _, bq1_⟩
   rw [if_neg c5] at H
   have c5b0 := beq_eq_false_iff_ne.mpr c5
   have c5b1 := bne_iff_ne.mpr c5
   have c5b2 : ¬ (((rd_T83 l0 x15_1).f3) = []) := fun h_ => c5 (by rw [h_]; rfl)
   have H' := a0_ H
   clear H
   have p332 := t0_ (x15_1)
   have q332 := tl_ (x15_1) (l0.length)
   obtain ⟨ad332, A332_3, c332_3, e332, -, -, -, -, hx332_0, hx332_1, hx332_2, hx332_3, HR332_3, HC332_3⟩ := ri_ HB (at_T83 HR0.out x15_1 (of_eq_true p332) (of_eq_true q332))
   cases e332
   go_wp2_with (first | ((with_reducible refine gate_dst (N := 6) rfl ?_); (try (refine gate_guard (by rfl) ?_; dsimp only)); refine boxS_ 6 #[.string (⟨#[]⟩ : ByteArray), .int .i64 0, .int .i64 0, .slice none 0 0] 83 (fun gb333 hg w8 hbox hb => ?_); replace HO_4 := a0_ (Kd.R_below (kR_ HO_4.out) hb); have BK333 := a0_ (hbox); have GW333 := a0_ (gw_ hg : w.heap.size ≤ gb333); replace HB := a0_ (below_step bq0_ hb); have GE333 := GW333; clear hb hbox hg; obtain ⟨z9_0, z9_1, z9_2, z9_3, q9_0, q9_1, q9_2, q9_3⟩ := bk4_ BK333.out))
   go_loopg [4, 26] k1 (fun kq v4 v26 w' => ∃ (x4_2 : List (S45)) (x26_2 : Int), v26 = .int .i64 x26_2 ∧ Aside0 (spec_RecordsOf.l1 kq l0 x4_2 l0 (l0.length : Int) x15_1 ((rd_T83 l0 x15_1).f3) (((rd_T83 l0 x15_1).f3).length : Int) x26_2 ((rd_T83 l0 x15_1).f0) ((rd_T83 l0 x15_1).f1) ((rd_T83 l0 x15_1).f2) ((rd_T83 l0 x15_1).f3) = some (r1, r2)) ∧ Aside0 (kq ≤ k1) ∧ Aside0 (Kd.R k45 45 w' w.heap.size (fun _ => True) v4 x4_2) ∧ Aside0 (w'.heap[gb333]? = some (.cells #[.string ((rd_T83 l0 x15_1).f0), .int .i64 ((rd_T83 l0 x15_1).f1), .int .i64 ((rd_T83 l0 x15_1).f2), (.slice A332_3 ((rd_T83 l0 x15_1).f3).length c332_3)] 83 (0, 0))) ∧ Aside0 (Below w.heap.size w w'))
   case atStart => exact ⟨(x4_1), (0), rs_, H', ⟨Nat.le_refl _⟩, ⟨by (with_reducible repeat (first | apply Kd.R_alloc | apply Kd.R_drewN | apply Kd.R_drew)); exact Kd.R_mono (rf4_ gb333 (Kd.R_types HO_4.out BK333.out (by decide)) (fun _ hk => hk.2) (.string ((rd_T83 l0 x15_1).f0)) (.int .i64 ((rd_T83 l0 x15_1).f1)) (.int .i64 ((rd_T83 l0 x15_1).f2)) (.slice A332_3 ((rd_T83 l0 x15_1).f3).length c332_3)) (fun _ hk => trivial)⟩, ⟨put4_ BK333.out⟩, ⟨bq1_⟩⟩
   case round =>
    clear H'
    try clear c1
    try clear c2
    try clear c2b0
    try clear c3
    try clear c3b0
    try clear c4
    try clear c4b0
    try clear c5
    try clear c5b0
    try clear c5b1
    try clear c5b2
    try clear z9_0 z9_1 z9_2 z9_3
    try clear q9_0 q9_1 q9_2 q9_3
    try clear hx332_0
    try clear hx332_1
    try clear hx332_2
    try clear hx332_3
    try clear p332
    try clear q332
    obtain ⟨x4_2, x26_2, rfl, HA, HK2, HO_4, BK333, HB⟩ := hrel
    cases gk with
    | zero => exact absurd HA.out (by simp [spec_RecordsOf.l1])
    | succ k2 =>
     have H := HA.out
     clear HA
     simp only [spec_RecordsOf.l1] at H
     by_cases c10 : x26_2 < (((rd_T83 l0 x15_1).f3).length : Int)
     case neg =>
      rw [if_neg c10] at H
      have c10b0 := decide_eq_false c10
      clear c10
      have H' := a0_ H
      clear H
      go_wp2
      go_roundg k2
      case measure => have := HK1.out; have := HK2.out; omega
      case rel => exact ⟨(x4_2), (wrap64 (x15_1 + 1)), rs_, H', jm_ HK1 HK2, ⟨kR_ HO_4.out⟩, ⟨bq1_⟩⟩
     rw [if_pos c10] at H
     have c10b0 := decide_eq_true c10
     clear c10
     by_cases c11 : 0 ≤ x26_2
     case neg =>
      rw [if_neg c11] at H
      exact absurd H (by simp)
     rw [if_pos c11] at H
     have c11b0 := decide_eq_true c11
     clear c11
     by_cases c12 : x26_2 < (((rd_T83 l0 x15_1).f3).length : Int)
     case neg =>
      rw [if_neg c12] at H
      exact absurd H (by simp)
     rw [if_pos c12] at H
     have c12b0 := decide_eq_true c12
     clear c12
     obtain ⟨t336, A13, H⟩ := ob_ H
     by_cases c14 : t336 = true
     case neg =>
      replace c14 := Bool.eq_false_iff.mpr c14
      subst c14
      rw [if_neg ff_] at H
      simp only [Option.some.injEq, Prod.mk.injEq] at H
      obtain ⟨rfl, rfl⟩ := H
      have p334 := t0_ (x26_2)
      have q334 := tl_ (x26_2) (((rd_T83 l0 x15_1).f3).length)
      obtain ⟨ad334, e334, hx334_0⟩ := Kd.at_string HR332_3.out x26_2 (of_eq_true p334) (of_eq_true q334)
      cases e334
      replace hx334_0 := (HB.out.cell (World.block_lt_of_cell? w _ hx334_0)).trans hx334_0
      obtain ⟨_, _, _, _, _, _, _, _⟩ := bk4_ BK333.out
      go_wp2_with (first | ((with_reducible refine gate_dst (N := 9) rfl ?_); (try (refine gate_guard (by rfl) ?_; dsimp only)); refine boxS_ 9 #[.string (⟨#[]⟩ : ByteArray), .int .i64 0, .int .i64 0, .string (⟨#[]⟩ : ByteArray)] 45 (fun gb335 hg w36 hbox hb => ?_); replace HO_4 := a0_ (Kd.R_below (Kd.R_elderB (kR_ HO_4.out) gb335 (Nat.le_of_eq hg.symm)) hb); have BK335 := a0_ (hbox); have GW335 := a0_ (gw_ hg (below_size bq1_) : w.heap.size ≤ gb335); replace HB := a0_ (below_step bq1_ hb); have NB333_335 := a0_ ((by rw [hg]; exact Nat.ne_of_lt (blk_lt (g := gb333) (o := .cells #[.string ((rd_T83 l0 x15_1).f0), .int .i64 ((rd_T83 l0 x15_1).f1), .int .i64 ((rd_T83 l0 x15_1).f2), .slice (some ad334) ((rd_T83 l0 x15_1).f3).length c332_3] 83 (0, 0)) (kB_ BK333.out)) : gb333 ≠ gb335)); have NB335_333 := a0_ ((by rw [hg]; exact Nat.ne_of_gt (blk_lt (g := gb333) (o := .cells #[.string ((rd_T83 l0 x15_1).f0), .int .i64 ((rd_T83 l0 x15_1).f1), .int .i64 ((rd_T83 l0 x15_1).f2), .slice (some ad334) ((rd_T83 l0 x15_1).f3).length c332_3] 83 (0, 0)) (kB_ BK333.out)) : gb335 ≠ gb333)); replace BK333 := a0_ (bkB_ BK333 hb); have GE335 := GW335; clear hb hbox hg; have hnb37 := NB335_333.out; have hnc37 := NB333_335.out; obtain ⟨_, _, _, _, _, _, _, _⟩ := bk4_ BK335.out) | ((with_reducible refine gt_ 61 rfl ?_); refine gs_ 39 Tryz.func61 #[.agg #[.string ((rd_T83 l0 x15_1).f0), .int .i64 ((rd_T83 l0 x15_1).f1), .int .i64 ((rd_T83 l0 x15_1).f2), .string (rdOf ByteArray.empty ((rd_T83 l0 x15_1).f3) x26_2)]] ?_; (with_reducible refine (spec_GoodRecord.calls k2 ((rd_T83 l0 x15_1).f0) ((rd_T83 l0 x15_1).f1) ((rd_T83 l0 x15_1).f2) (rdOf ByteArray.empty ((rd_T83 l0 x15_1).f3) x26_2) false _ A13.out).mono ?_); rintro e w39 ⟨rfl, hb⟩; refine ⟨_, rfl, ?_⟩; replace HO_4 := a0_ (Kd.R_below (kR_ (Kd.R_mono (rf4_ gb335 (Kd.R_mono HO_4.out (fun k_ hk => (⟨hk, hk.2⟩ : _ ∧ k_ ≠ gb335))) (fun _ hk => hk.2) (.string ((rd_T83 l0 x15_1).f0)) (.int .i64 ((rd_T83 l0 x15_1).f1)) (.int .i64 ((rd_T83 l0 x15_1).f2)) (.string (rdOf ByteArray.empty ((rd_T83 l0 x15_1).f3) x26_2))) (fun _ h_ => h_.1))) hb); replace BK333 := a0_ (blk_below (g := gb333) (o := .cells #[.string ((rd_T83 l0 x15_1).f0), .int .i64 ((rd_T83 l0 x15_1).f1), .int .i64 ((rd_T83 l0 x15_1).f2), .slice (some ad334) ((rd_T83 l0 x15_1).f3).length c332_3] 83 (0, 0)) (bfar4_ NB333_335.out BK333.out) hb); replace BK335 := a0_ (blk_below (g := gb335) (o := .cells #[.string ((rd_T83 l0 x15_1).f0), .int .i64 ((rd_T83 l0 x15_1).f1), .int .i64 ((rd_T83 l0 x15_1).f2), .string (rdOf ByteArray.empty ((rd_T83 l0 x15_1).f3) x26_2)] 45 (0, 0)) (put4_ BK335.out) hb); replace HB := a0_ (below_step bq1_ hb); clear hb))
      go_ret2
      exact ⟨_, rr_, by first | exact Kd.R_nil _ _ _ _ _ | exact Kd.N_nil _ _ _ _ _ | exact Kd.V_nil _ _ _ _ _ | exact Kd.Q_nil _ _ _ _ _ | exact Kd.S_nil _ _ _ _ _, bq1_⟩
     subst c14
     rw [if_pos rfl] at H
     have HC15 := a0_ H
     clear H
     have p334 := t0_ (x26_2)
     have q334 := tl_ (x26_2) (((rd_T83 l0 x15_1).f3).length)
     obtain ⟨ad334, e334, hx334_0⟩ := Kd.at_string HR332_3.out x26_2 (of_eq_true p334) (of_eq_true q334)
     cases e334
     replace hx334_0 := (HB.out.cell (World.block_lt_of_cell? w _ hx334_0)).trans hx334_0
     obtain ⟨z16_0, z16_1, z16_2, z16_3, q16_0, q16_1, q16_2, q16_3⟩ := bk4_ BK333.out
     go_upto_region 14 with (first | ((with_reducible refine gate_dst (N := 9) rfl ?_); (try (refine gate_guard (by rfl) ?_; dsimp only)); refine boxS_ 9 #[.string (⟨#[]⟩ : ByteArray), .int .i64 0, .int .i64 0, .string (⟨#[]⟩ : ByteArray)] 45 (fun gb335 hg w17 hbox hb => ?_); replace HO_4 := a0_ (Kd.R_below (Kd.R_elderB (kR_ HO_4.out) gb335 (Nat.le_of_eq hg.symm)) hb); have BK335 := a0_ (hbox); have GW335 := a0_ (gw_ hg (below_size bq1_) : w.heap.size ≤ gb335); replace HB := a0_ (below_step bq1_ hb); have NB333_335 := a0_ ((by rw [hg]; exact Nat.ne_of_lt (blk_lt (g := gb333) (o := .cells #[.string ((rd_T83 l0 x15_1).f0), .int .i64 ((rd_T83 l0 x15_1).f1), .int .i64 ((rd_T83 l0 x15_1).f2), .slice (some ad334) ((rd_T83 l0 x15_1).f3).length c332_3] 83 (0, 0)) (kB_ BK333.out)) : gb333 ≠ gb335)); have NB335_333 := a0_ ((by rw [hg]; exact Nat.ne_of_gt (blk_lt (g := gb333) (o := .cells #[.string ((rd_T83 l0 x15_1).f0), .int .i64 ((rd_T83 l0 x15_1).f1), .int .i64 ((rd_T83 l0 x15_1).f2), .slice (some ad334) ((rd_T83 l0 x15_1).f3).length c332_3] 83 (0, 0)) (kB_ BK333.out)) : gb335 ≠ gb333)); replace BK333 := a0_ (bkB_ BK333 hb); have GE335 := GW335; clear hb hbox hg; have hnb18 := NB335_333.out; have hnc18 := NB333_335.out; obtain ⟨z19_0, z19_1, z19_2, z19_3, q19_0, q19_1, q19_2, q19_3⟩ := bk4_ BK335.out) | ((with_reducible refine gt_ 61 rfl ?_); refine gs_ 39 Tryz.func61 #[.agg #[.string ((rd_T83 l0 x15_1).f0), .int .i64 ((rd_T83 l0 x15_1).f1), .int .i64 ((rd_T83 l0 x15_1).f2), .string (rdOf ByteArray.empty ((rd_T83 l0 x15_1).f3) x26_2)]] ?_; (with_reducible refine (spec_GoodRecord.calls k2 ((rd_T83 l0 x15_1).f0) ((rd_T83 l0 x15_1).f1) ((rd_T83 l0 x15_1).f2) (rdOf ByteArray.empty ((rd_T83 l0 x15_1).f3) x26_2) true _ A13.out).mono ?_); rintro e w20 ⟨rfl, hb⟩; refine ⟨_, rfl, ?_⟩; replace HO_4 := a0_ (Kd.R_below (kR_ (Kd.R_mono (rf4_ gb335 (Kd.R_mono HO_4.out (fun k_ hk => (⟨hk, hk.2⟩ : _ ∧ k_ ≠ gb335))) (fun _ hk => hk.2) (.string ((rd_T83 l0 x15_1).f0)) (.int .i64 ((rd_T83 l0 x15_1).f1)) (.int .i64 ((rd_T83 l0 x15_1).f2)) (.string (rdOf ByteArray.empty ((rd_T83 l0 x15_1).f3) x26_2))) (fun _ h_ => h_.1))) hb); replace BK333 := a0_ (blk_below (g := gb333) (o := .cells #[.string ((rd_T83 l0 x15_1).f0), .int .i64 ((rd_T83 l0 x15_1).f1), .int .i64 ((rd_T83 l0 x15_1).f2), .slice (some ad334) ((rd_T83 l0 x15_1).f3).length c332_3] 83 (0, 0)) (bfar4_ NB333_335.out BK333.out) hb); replace BK335 := a0_ (blk_below (g := gb335) (o := .cells #[.string ((rd_T83 l0 x15_1).f0), .int .i64 ((rd_T83 l0 x15_1).f1), .int .i64 ((rd_T83 l0 x15_1).f2), .string (rdOf ByteArray.empty ((rd_T83 l0 x15_1).f3) x26_2)] 45 (0, 0)) (put4_ BK335.out) hb); replace HB := a0_ (below_step bq1_ hb); clear hb; obtain ⟨Ao21, co21, eo21⟩ := Kd.R_slice HO_4.out; subst eo21))
     (try simp only [Act.put, List.setIfInBounds_toArray, List.set_cons_zero, List.set_cons_succ])
     go_cut [54] (fun v54 wc => ∃ (kq : Nat) (x54_14 : Bool), v54 = .bool x54_14 ∧ Aside0 (spec_RecordsOf.j2 kq l0 x4_2 l0 (l0.length : Int) x15_1 ((rd_T83 l0 x15_1).f3) (((rd_T83 l0 x15_1).f3).length : Int) x26_2 x54_14 ((rd_T83 l0 x15_1).f0) ((rd_T83 l0 x15_1).f1) ((rd_T83 l0 x15_1).f2) ((rd_T83 l0 x15_1).f3) ((rd_T83 l0 x15_1).f0) ((rd_T83 l0 x15_1).f1) ((rd_T83 l0 x15_1).f2) (rdOf ByteArray.empty ((rd_T83 l0 x15_1).f3) x26_2) = some (r1, r2)) ∧ Aside0 (kq ≤ k2) ∧ Aside0 (Kd.R k45 45 wc w.heap.size (fun k_ => k_ ≠ gb335) (.slice Ao21 x4_2.length co21) x4_2) ∧ Aside0 (wc.heap[gb333]? = some (.cells #[.string ((rd_T83 l0 x15_1).f0), .int .i64 ((rd_T83 l0 x15_1).f1), .int .i64 ((rd_T83 l0 x15_1).f2), (.slice (some ad334) ((rd_T83 l0 x15_1).f3).length c332_3)] 83 (0, 0))) ∧ Aside0 (wc.heap[gb335]? = some (.cells #[.string ((rd_T83 l0 x15_1).f0), .int .i64 ((rd_T83 l0 x15_1).f1), .int .i64 ((rd_T83 l0 x15_1).f2), .string (rdOf ByteArray.empty ((rd_T83 l0 x15_1).f3) x26_2)] 45 (0, 0))) ∧ Aside0 (Below w.heap.size w wc))
     case first =>
      have H := HC15.out
      clear HC15
      by_cases c22 : (x4_2.length : Int) > 0
      case neg =>
       rw [if_neg c22] at H
       have c22b0 := decide_eq_false c22
       have c22b1 : decide (0 < x4_2.length) = false := decide_eq_false (by omega)
       clear c22
       (first | rw [c22b0] | (simp only [i64_w, i32_w]; rw [c22b0]) | skip)
       have H' := a0_ H
       clear H
       try go_wp2
       replace HO_4 := a0_ (Kd.R_drew HO_4.out)
       replace BK333 := a0_ (blk_drew BK333.out)
       replace BK335 := a0_ (blk_drew BK335.out)
       replace HB := a0_ (below_drew1 HB.out)
       refine stH_ 12 [] ht_ (fun hHeld => ?_); refine with_tabW spec_RecordsOf.tab14 spec_RecordsOf.bits14 (fun HT_ HW_ => ?_)
       generalize w20.drew = w29 at HO_4 BK333 BK335 HB hHeld ⊢
       refine p_ 0 43 ?_
       refine p_ 1 44 ?_
       refine p_ 2 45 ?_
       refine s_ 3 46 ?_
       refine s_ 4 47 ?_
       refine s_ 5 48 ?_
       refine s_ 6 49 ?_
       refine s_ 7 50 ?_
       refine s_ 8 51 ?_
       refine s_ 9 52 ?_
       refine s_ 10 53 ?_
       refine p_ 11 54 ?_
       refine done_ (done_of HT_.out (by kernel_rfl)) ?_
       try go_wp2
       go_meet
       case rel => exact ⟨_, (false), rs_, H', ⟨by have := HK1.out; have := HK2.out; first | omega | exact Nat.le_refl _⟩, ⟨kR_ (Kd.R_mono HO_4.out (fun _ hk => hk.2))⟩, ⟨bz_⟩, ⟨bz_⟩, ⟨bq1_⟩⟩
      rw [if_pos c22] at H
      have c22b0 := decide_eq_true c22
      have c22b1 : decide (0 < x4_2.length) = true := decide_eq_true (by omega)
      clear c22
      (first | rw [c22b0] | (simp only [i64_w, i32_w]; rw [c22b0]) | skip)
      obtain ⟨ji23, hji23⟩ : ∃ j_ : Int, (wrap64 ((x4_2.length : Int) - 1)) = j_ := ⟨_, rfl⟩
      (first | rw [hji23] at H | simp only [hji23] at H)
      have hji23w : (IntKind.i64.wrap ((x4_2.length : Int) - 1)) = ji23 := (i64_w _).trans hji23
      by_cases c24 : 0 ≤ (ji23)
      case neg =>
       rw [if_neg c24] at H
       exact absurd H (by simp)
      rw [if_pos c24] at H
      have c24b0 := decide_eq_true c24
      clear c24
      by_cases c25 : (ji23) < (x4_2.length : Int)
      case neg =>
       rw [if_neg c25] at H
       exact absurd H (by simp)
      rw [if_pos c25] at H
      have c25b0 := decide_eq_true c25
      clear c25
      obtain ⟨t338, A26, H⟩ := ob_ H
      have H' := a0_ H
      clear H
      try go_wp2
      replace HO_4 := a0_ (Kd.R_drew HO_4.out)
      replace BK333 := a0_ (blk_drew BK333.out)
      replace BK335 := a0_ (blk_drew BK335.out)
      replace HB := a0_ (below_drew1 HB.out)
      have p337 := t0_ ((ji23))
      have q337 := tl_ ((ji23)) (x4_2.length)
      obtain ⟨ad337, e337, hx337_0, hx337_1, hx337_2, hx337_3⟩ := at_T45 (Kd.R_reads' HO_4.out).2.2 (ji23) (of_eq_true p337) (of_eq_true q337)
      cases e337
      refine stH_ 12 [] (cb_ BK335.out (e4_ hx337_0 hx337_1 hx337_2 hx337_3)) (fun hHeld => ?_); refine with_tabW spec_RecordsOf.tab14 spec_RecordsOf.bits14 (fun HT_ HW_ => ?_)
      generalize w20.drew = w27 at HO_4 BK333 BK335 HB hx337_0 hx337_1 hx337_2 hx337_3 hHeld ⊢
      refine p_ 0 43 ?_
      refine p_ 1 44 ?_
      refine p_ 2 45 ?_
      refine p_ 3 46 ?_
      refine p_ 4 47 ?_
      refine p_ 5 48 ?_
      refine p_ 6 49 ?_
      refine t_ 7 50 ?_
      refine t_ 8 51 ?_
      refine oneS_ 9 (some 52) (fun K hK => ?_)
      refine goes_ Tryz.func62 (by kernel_rfl) rfl #[.agg #[.string ((rd_T45 x4_2 (ji23)).f0), .int .i64 ((rd_T45 x4_2 (ji23)).f1), .int .i64 ((rd_T45 x4_2 (ji23)).f2), .string ((rd_T45 x4_2 (ji23)).f3)], .agg #[.string ((rd_T83 l0 x15_1).f0), .int .i64 ((rd_T83 l0 x15_1).f1), .int .i64 ((rd_T83 l0 x15_1).f2), .string (rdOf ByteArray.empty ((rd_T83 l0 x15_1).f3) x26_2)]] (by rfl) rfl rfl (by (try simp only [List.map_toArray, List.map_cons, List.map_nil]); first | done | (simp only [hji23]; rfl) | rfl | (simp only [List.length_drop, List.length_take]; rfl)) ?_
      with_reducible refine (spec_l3Compare.calls k2 ((rd_T45 x4_2 (ji23)).f0) ((rd_T45 x4_2 (ji23)).f1) ((rd_T45 x4_2 (ji23)).f2) ((rd_T45 x4_2 (ji23)).f3) ((rd_T83 l0 x15_1).f0) ((rd_T83 l0 x15_1).f1) ((rd_T83 l0 x15_1).f2) (rdOf ByteArray.empty ((rd_T83 l0 x15_1).f3) x26_2) t338 _ A26.out).mono ?_
      rintro e w28 ⟨rfl, hb⟩
      have HS4_ := (hb.cell (World.block_lt_of_cell? _ _ (hHeld.2.2.2.2.1))).trans (hHeld.2.2.2.2.1)
      have HS5_ := (hb.cell (World.block_lt_of_cell? _ _ (hHeld.2.2.2.2.2.1))).trans (hHeld.2.2.2.2.2.1)
      have HS6_ := (hb.cell (World.block_lt_of_cell? _ _ (hHeld.2.2.2.2.2.2.1))).trans (hHeld.2.2.2.2.2.2.1)
      have HS7_ := (hb.cell (World.block_lt_of_cell? _ _ (hHeld.2.2.2.2.2.2.2))).trans (hHeld.2.2.2.2.2.2.2)
      refine ⟨_, rfl, ?_⟩
      replace HO_4 := a0_ (Kd.R_below (kR_ HO_4.out) hb)
      replace BK333 := a0_ (bkB_ BK333 hb)
      replace BK335 := a0_ (bkB_ BK335 hb)
      replace HB := a0_ (below_step bq1_ hb)
      (try clear hb)
      (try clear hb2)
      (try clear hk)
      (try clear hi)
      refine hK.out _ _ (cb_ BK335.out (c1_ HS4_ (c1_ HS5_ (c1_ HS6_ (e1_ HS7_))))).out (fun hHeld => ?_)
      clear hK K
      refine normS_ ?_
      refine p_ 10 53 ?_
      refine p_ 11 54 ?_
      refine done_ (done_of HT_.out (by kernel_rfl)) ?_
      try go_wp2
      go_meet
      case rel => exact ⟨_, (decide (t338 ≥ 0)), rs_, H', ⟨by have := HK1.out; have := HK2.out; first | omega | exact Nat.le_refl _⟩, ⟨kR_ (Kd.R_mono HO_4.out (fun _ hk => hk.2))⟩, ⟨bz_⟩, ⟨bz_⟩, ⟨bq1_⟩⟩
     case rest =>
      clear HC15
      try clear c1
      try clear c2
      try clear c2b0
      try clear p2
      try clear c3
      try clear c3b0
      try clear p3
      try clear q3
      try clear hx3
      try clear c4
      try clear c4b0
      try clear c5
      try clear c5b0
      try clear c5b1
      try clear c5b2
      try clear c10
      try clear c10b0
      try clear c11
      try clear c11b0
      try clear c12
      try clear c12b0
      try clear c14
      try clear z16_0 z16_1 z16_2 z16_3
      try clear z19_0 z19_1 z19_2 z19_3
      try clear z7_0 z7_1 z7_2 z7_3
      try clear z9_0 z9_1 z9_2 z9_3
      try clear q16_0 q16_1 q16_2 q16_3
      try clear q19_0 q19_1 q19_2 q19_3
      try clear q7_0 q7_1 q7_2 q7_3
      try clear q9_0 q9_1 q9_2 q9_3
      try clear hx332_0
      try clear hx332_1
      try clear hx332_2
      try clear hx332_3
      try clear hx334_0
      try clear p2
      try clear p3
      try clear p332
      try clear p334
      try clear q3
      try clear q332
      try clear q334
      obtain ⟨kq, x54_14, rfl, HA, HJ14, HO_4, BK333, BK335, HB⟩ := hcut
      cases kq with
      | zero => exact absurd HA.out (by simp [spec_RecordsOf.j2])
      | succ kj14 =>
       have H := HA.out
       clear HA
       simp only [spec_RecordsOf.j2] at H
       by_cases c30 : x54_14 = true
       case pos =>
        subst c30
        rw [if_pos rfl] at H
        simp only [Option.some.injEq, Prod.mk.injEq] at H
        obtain ⟨rfl, rfl⟩ := H
        go_wp2
        go_ret2
        exact ⟨_, rr_, by first | exact Kd.R_nil _ _ _ _ _ | exact Kd.N_nil _ _ _ _ _ | exact Kd.V_nil _ _ _ _ _ | exact Kd.Q_nil _ _ _ _ _ | exact Kd.S_nil _ _ _ _ _, bq1_⟩
       replace c30 := Bool.eq_false_iff.mpr c30
       subst c30
       rw [if_neg ff_] at H
       by_cases c31 : x4_2.length < 2932031007402
       case neg =>
        rw [if_neg c31] at H
        exact absurd H (by simp)
       rw [if_pos c31] at H
       have LMc31 := a0_ c31
       clear c31
       obtain ⟨y339, hy339⟩ : ∃ y_ : List (S45), y_ = (x4_2 ++ [(⟨((rd_T83 l0 x15_1).f0), ((rd_T83 l0 x15_1).f1), ((rd_T83 l0 x15_1).f2), (rdOf ByteArray.empty ((rd_T83 l0 x15_1).f3) x26_2)⟩ : S45)]) := ⟨_, rfl⟩
       rw [← hy339] at H
       have Ny339 := a0_ hy339
       clear hy339
       have H' := a0_ H
       clear H
       have hnb32 := NB335_333.out
       have hnc32 := NB333_335.out
       obtain ⟨_, _, _, _, _, _, _, _⟩ := bk4_ BK335.out
       go_wp2_with (first | ((with_reducible refine gate_builtin (b := .append) (xs := #[.tmp 55, .tmp 57]) rfl ?_); (try (refine gate_guard (by rfl) ?_; dsimp only)); at_builtin; refine Kd.R_append k45 (w0 := w) w.heap.size rfl (.tmp 55) (.tmp 57) 27 45 (.agg #[(.string ⟨#[]⟩), (.int .i64 0), (.int .i64 0), (.string ⟨#[]⟩)]) 48 rfl Tryz.underlying27 info45 rfl (by decide) (by omega) (.slice Ao21 x4_2.length co21) x4_2 (⟨((rd_T83 l0 x15_1).f0), ((rd_T83 l0 x15_1).f1), ((rd_T83 l0 x15_1).f2), (rdOf ByteArray.empty ((rd_T83 l0 x15_1).f3) x26_2)⟩ : S45) [.string ((rd_T83 l0 x15_1).f0), .int .i64 ((rd_T83 l0 x15_1).f1), .int .i64 ((rd_T83 l0 x15_1).f2), .string (rdOf ByteArray.empty ((rd_T83 l0 x15_1).f3) x26_2)] (fun k_ => k_ ≠ gb335) (fun _ => False) rfl rfl ?aP (fun _ hk => hk.elim) ?aF ?aO ?aB ?aS ?aL ?_; (case aP => exact k45_mkM _ _ _ (⟨((rd_T83 l0 x15_1).f0), ((rd_T83 l0 x15_1).f1), ((rd_T83 l0 x15_1).f2), (rdOf ByteArray.empty ((rd_T83 l0 x15_1).f3) x26_2)⟩ : S45)); (case aB => exact bq1_); (case aF => exact (fun k_ hk => Kd.freshB (g := gb335) (o := .cells #[.string ((rd_T83 l0 x15_1).f0), .int .i64 ((rd_T83 l0 x15_1).f1), .int .i64 ((rd_T83 l0 x15_1).f2), .string (rdOf ByteArray.empty ((rd_T83 l0 x15_1).f3) x26_2)] 45 (0, 0)) (kB_ BK335.out) k_ hk)); (case aO => exact (kR_ HO_4.out)); (case aS => exact (below_size bq1_)); (case aL => have := LMc31.out; omega); intro v340 w34 ho hb hg hat; rw [← Ny339.out] at ho; replace BK333 := a0_ (blk_grown (g := gb333) (o := .cells #[.string ((rd_T83 l0 x15_1).f0), .int .i64 ((rd_T83 l0 x15_1).f1), .int .i64 ((rd_T83 l0 x15_1).f2), .slice (some ad334) ((rd_T83 l0 x15_1).f3).length c332_3] 83 (0, 0)) (kB_ BK333.out) hg (Kd.R_ne HO_4.out BK333.out (by decide))); replace BK335 := a0_ (blk_grown (g := gb335) (o := .cells #[.string ((rd_T83 l0 x15_1).f0), .int .i64 ((rd_T83 l0 x15_1).f1), .int .i64 ((rd_T83 l0 x15_1).f2), .string (rdOf ByteArray.empty ((rd_T83 l0 x15_1).f3) x26_2)] 45 (0, 0)) (kB_ BK335.out) hg (Kd.R_away HO_4.out (fun _ hk => hk))); replace HB := a0_ (hb); have HO341 := a0_ (ho); clear HO_4; clear ho hb hg hat))
       go_roundg kj14
       case measure => have := HK1.out; have := HK2.out; have := HJ14.out; omega
       case rel => exact ⟨(y339), (wrap64 (x26_2 + 1)), rs_, H', jn_ HK1 HK2 HJ14, ⟨kR_ (Kd.R_mono HO341.out (fun _ hk => trivial))⟩, ⟨bz_⟩, ⟨bq1_⟩⟩
def impl_GoodRecord.f (k : Nat) (a0_0 : ByteArray) (a0_1 : Int) (a0_2 : Int) (a0_3 : ByteArray) : Option (Bool) := (impl_GoodName.f a0_0).bind fun t398 => (if t398 = true then ((impl_within.f a0_2 0 100000).bind fun t399 => (if t399 = true then (if (a0_3.size : Int) > 100 then (some false) else ((impl_DataBytes.f k a0_1 a0_3).bind fun bt400 => (some bt400.2))) else (some false))) else (some false))
theorem impl_GoodRecord.calls (k : Nat) (a0_0 : ByteArray) (a0_1 : Int) (a0_2 : Int) (a0_3 : ByteArray) (r : Bool) (w : World) (h : impl_GoodRecord.f k a0_0 a0_1 a0_2 a0_3 = some r) (hv_ : Vars w := by exact vv_) :
 Calls Tryz.prog 29 #[.agg #[.string a0_0, .int .i64 a0_1, .int .i64 a0_2, .string a0_3]] w fun e w' => e = .returned (.bool r) ∧ Below w.heap.size w w' := by
 have HV_ := a0_ hv_
 clear hv_
 have hu45 := Tryz.underlying45
 have HB := a0_ (Below.refl w.heap.size w)
 have H := h
 clear h
 unfold impl_GoodRecord.f at H
 obtain ⟨t398, A2, H⟩ := ob_ H
 by_cases c3 : t398 = true
 case neg =>
  replace c3 := Bool.eq_false_iff.mpr c3
  subst c3
  rw [if_neg ff_] at H
  obtain rfl := Option.some.inj H
  go_enter Tryz.func29, Tryz.ntmps29
  go_wp2_with (first | ((with_reducible refine gate_dst (N := 1) rfl ?_); (try (refine gate_guard (by rfl) ?_; dsimp only)); refine boxS_ 1 #[.string a0_0, .int .i64 a0_1, .int .i64 a0_2, .string a0_3] 45 (fun gb397 hg w21 hbox hb => ?_); have BK397 := a0_ (hbox); have GW397 := a0_ (gw_ hg : w.heap.size ≤ gb397); replace HB := a0_ (below_step bq0_ hb); have GE397 := GW397; clear hb hbox hg; obtain ⟨_, _, _, _, _, _, _, _⟩ := bk4_ BK397.out) | ((with_reducible refine gt_ 83 rfl ?_); refine gs_ 7 Tryz.func83 #[.string a0_0] ?_; (with_reducible refine (impl_GoodName.calls a0_0 false _ A2.out).mono ?_); rintro e w23 ⟨rfl, hb⟩; refine ⟨_, rfl, ?_⟩; replace BK397 := a0_ (bkB_ BK397 hb); replace HB := a0_ (below_step bq1_ hb); clear hb))
  go_ret
  exact ⟨rr_, bq1_⟩
 subst c3
 rw [if_pos rfl] at H
 obtain ⟨t399, A4, H⟩ := ob_ H
 by_cases c5 : t399 = true
 case neg =>
  replace c5 := Bool.eq_false_iff.mpr c5
  subst c5
  rw [if_neg ff_] at H
  obtain rfl := Option.some.inj H
  go_enter Tryz.func29, Tryz.ntmps29
  go_wp2_with (first | ((with_reducible refine gate_dst (N := 1) rfl ?_); (try (refine gate_guard (by rfl) ?_; dsimp only)); refine boxS_ 1 #[.string a0_0, .int .i64 a0_1, .int .i64 a0_2, .string a0_3] 45 (fun gb397 hg w17 hbox hb => ?_); have BK397 := a0_ (hbox); have GW397 := a0_ (gw_ hg : w.heap.size ≤ gb397); replace HB := a0_ (below_step bq0_ hb); have GE397 := GW397; clear hb hbox hg; obtain ⟨_, _, _, _, _, _, _, _⟩ := bk4_ BK397.out) | ((with_reducible refine gt_ 83 rfl ?_); refine gs_ 7 Tryz.func83 #[.string a0_0] ?_; (with_reducible refine (impl_GoodName.calls a0_0 true _ A2.out).mono ?_); rintro e w19 ⟨rfl, hb⟩; refine ⟨_, rfl, ?_⟩; replace BK397 := a0_ (bkB_ BK397 hb); replace HB := a0_ (below_step bq1_ hb); clear hb; obtain ⟨_, _, _, _, _, _, _, _⟩ := bk4_ BK397.out) | (go_at_call 84; (with_reducible refine (impl_within.calls a0_2 0 100000 false _ A4.out).mono ?_); rintro e w' ⟨rfl, ⟨nd, rfl⟩⟩))
  go_ret
  exact ⟨rr_, bq1_⟩
 subst c5
 rw [if_pos rfl] at H
 by_cases c6 : (a0_3.size : Int) > 100
 case pos =>
  rw [if_pos c6] at H
  have c6b0 := decide_eq_true c6
  have c6b1 : decide (100 < a0_3.size) = true := decide_eq_true (by omega)
  clear c6
  obtain rfl := Option.some.inj H
  go_enter Tryz.func29, Tryz.ntmps29
  go_wp2_with (first | ((with_reducible refine gate_dst (N := 1) rfl ?_); (try (refine gate_guard (by rfl) ?_; dsimp only)); refine boxS_ 1 #[.string a0_0, .int .i64 a0_1, .int .i64 a0_2, .string a0_3] 45 (fun gb397 hg w7 hbox hb => ?_); have BK397 := a0_ (hbox); have GW397 := a0_ (gw_ hg : w.heap.size ≤ gb397); replace HB := a0_ (below_step bq0_ hb); have GE397 := GW397; clear hb hbox hg; obtain ⟨_, _, _, _, _, _, _, _⟩ := bk4_ BK397.out) | ((with_reducible refine gt_ 83 rfl ?_); refine gs_ 7 Tryz.func83 #[.string a0_0] ?_; (with_reducible refine (impl_GoodName.calls a0_0 true _ A2.out).mono ?_); rintro e w9 ⟨rfl, hb⟩; refine ⟨_, rfl, ?_⟩; replace BK397 := a0_ (bkB_ BK397 hb); replace HB := a0_ (below_step bq1_ hb); clear hb; obtain ⟨_, _, _, _, _, _, _, _⟩ := bk4_ BK397.out) | (go_at_call 84; (with_reducible refine (impl_within.calls a0_2 0 100000 true _ A4.out).mono ?_); rintro e w' ⟨rfl, ⟨nd, rfl⟩⟩))
  go_ret
  exact ⟨rr_, bq1_⟩
 rw [if_neg c6] at H
 have c6b0 := decide_eq_false c6
 have c6b1 : decide (100 < a0_3.size) = false := decide_eq_false (by omega)
 clear c6
 obtain ⟨⟨t400, t401⟩, A11, H⟩ := ob_ H
 obtain rfl := Option.some.inj H
 go_enter Tryz.func29, Tryz.ntmps29
 go_wp2_with (first | ((with_reducible refine gate_dst (N := 1) rfl ?_); (try (refine gate_guard (by rfl) ?_; dsimp only)); refine boxS_ 1 #[.string a0_0, .int .i64 a0_1, .int .i64 a0_2, .string a0_3] 45 (fun gb397 hg w12 hbox hb => ?_); have BK397 := a0_ (hbox); have GW397 := a0_ (gw_ hg : w.heap.size ≤ gb397); replace HB := a0_ (below_step bq0_ hb); have GE397 := GW397; clear hb hbox hg; obtain ⟨_, _, _, _, _, _, _, _⟩ := bk4_ BK397.out) | ((with_reducible refine gt_ 83 rfl ?_); refine gs_ 7 Tryz.func83 #[.string a0_0] ?_; (with_reducible refine (impl_GoodName.calls a0_0 true _ A2.out).mono ?_); rintro e w14 ⟨rfl, hb⟩; refine ⟨_, rfl, ?_⟩; replace BK397 := a0_ (bkB_ BK397 hb); replace HB := a0_ (below_step bq1_ hb); clear hb; obtain ⟨_, _, _, _, _, _, _, _⟩ := bk4_ BK397.out) | (go_at_call 84; (with_reducible refine (impl_within.calls a0_2 0 100000 true _ A4.out).mono ?_); rintro e w' ⟨rfl, ⟨nd, rfl⟩⟩) | ((with_reducible refine gt_ 31 rfl ?_); refine gs_ 26 Tryz.func31 #[.int .i64 a0_1, .string a0_3] ?_; (with_reducible refine (impl_DataBytes.calls k a0_1 a0_3 t400 t401 _ A11.out).mono ?_); rintro e w16 ⟨rfl, hb⟩; refine ⟨_, rfl, ?_⟩; replace BK397 := a0_ (bkB_ BK397 hb); replace HB := a0_ (below_step bq1_ hb); clear hb))
 go_ret
 exact ⟨rr_, bq1_⟩
def impl_dataBytes.f (k : Nat) (a0 : Int) (a1 : ByteArray) : Option (ByteArray) := (impl_DataBytes.f k a0 a1).bind fun bt402 => (if bt402.2 = true then (some bt402.1) else (some (⟨#[]⟩ : ByteArray)))
theorem impl_dataBytes.calls (k : Nat) (a0 : Int) (a1 : ByteArray) (r : ByteArray) (w : World) (h : impl_dataBytes.f k a0 a1 = some r) (hv_ : Vars w := by exact vv_) :
 Calls Tryz.prog 141 #[.int .i64 a0, .string a1] w fun e w' => e = .returned (.string r) ∧ Below w.heap.size w w' := by
 have HV_ := a0_ hv_
 clear hv_
 have HB := a0_ (Below.refl w.heap.size w)
 have H := h
 clear h
 unfold impl_dataBytes.f at H
 obtain ⟨⟨t402, t403⟩, A3, H⟩ := ob_ H
 by_cases c4 : t403 = true
 case pos =>
  subst c4
  rw [if_pos rfl] at H
  obtain rfl := Option.some.inj H
  go_enter Tryz.func141, Tryz.ntmps141
  go_wp2_with (first | ((with_reducible refine gt_ 31 rfl ?_); refine gs_ 10 Tryz.func31 #[.int .i64 a0, .string a1] ?_; (with_reducible refine (impl_DataBytes.calls k a0 a1 t402 true _ A3.out).mono ?_); rintro e w5 ⟨rfl, hb⟩; refine ⟨_, rfl, ?_⟩; replace HB := a0_ (below_step bq0_ hb); clear hb))
  go_ret
  exact ⟨rr_, bq0_⟩
 replace c4 := Bool.eq_false_iff.mpr c4
 subst c4
 rw [if_neg ff_] at H
 obtain rfl := Option.some.inj H
 go_enter Tryz.func141, Tryz.ntmps141
 go_wp2_with (first | ((with_reducible refine gt_ 31 rfl ?_); refine gs_ 10 Tryz.func31 #[.int .i64 a0, .string a1] ?_; (with_reducible refine (impl_DataBytes.calls k a0 a1 t402 false _ A3.out).mono ?_); rintro e w6 ⟨rfl, hb⟩; refine ⟨_, rfl, ?_⟩; replace HB := a0_ (below_step bq0_ hb); clear hb))
 go_ret
 exact ⟨rr_, bq0_⟩
end Go.Proofs.YtiegkjimpclmaaaGreatDoor.P
