/- FnExactReadData: part 7 of 26 of my texts for this claim, joined; the theorem stands in the last. Conditions: none beyond the statement's. -/
import Derived.Test.YtiegkjimpclmaaaGreatDoorMFnExactReadDatax4
import Derived.Test.YtiegkjimpclmaaaGreatDoorMFnExactReadDatax5
import Derived.Test.YtiegkjimpclmaaaGreatDoorMFnExactReadDatax0
import Derived.Test.YtiegkjimpclmaaaGreatDoorMFnExactReadDatax2
import Derived.Lib.ConvBytes
-- PureGood
/- What the reference says of a name: spec.l1Labels returns the labels and goodL, for every text that is not too long. Conditions: the text's size. -/
namespace Go.Proofs.YtiegkjimpclmaaaGreatDoor.Pure
open Go.RowKit Go.Proofs.YtiegkjimpclmaaaGreatDoor.P Go.Proofs.YtiegkjimpclmaaaGreatDoorW.PrintWords Go.Proofs.YtiegkjimpclmaaaGreatDoorW.PrintLast
set_option linter.unusedVariables false
set_option linter.unusedSimpArgs false

theorem w64n {n : Nat} (h : n < 4611686018427387904) : wrap64 ((n : Int) + 1) = ((n + 1 : Nat) : Int) := by unfold wrap64; omega
theorem bt_list (s : ByteArray) (i : Nat) (h : i < s.data.toList.length) : bt s (i : Int) = ((s.data.toList[i]'h).toNat : Int) := by
  unfold bt
  have h2 : (i : Int).toNat < s.size := by rw [size_len]; omega
  rw [dif_pos h2]
  rfl
theorem ext_mkB (s : ByteArray) (a b : Nat) : s.extract a b = mkB ((s.data.toList.drop a).take (b - a)) := by
  apply ext_data
  rw [mkB_data]
  simp [ByteArray.data_extract]
theorem ext_end (s : ByteArray) (a : Nat) : s.extract a s.size = mkB (s.data.toList.drop a) := by
  rw [ext_mkB, List.take_of_length_le (by rw [List.length_drop, size_len]; omega)]

theorem split_loop (s : ByteArray) (hs : s.size < 1099511627776) : ∀ (m i a : Nat) (acc : List ByteArray), i + m = s.size → a ≤ i → (∀ x ∈ (s.data.toList.drop a).take (i - a), x ≠ 46) → acc.length ≤ a →
    spec_l1Split.l0 (m + 1) s 46 acc (a : Int) (i : Int) = some (acc ++ (splitL 46 (s.data.toList.drop a)).map mkB)
  | 0, i, a, acc, him, hai, hx, hacc => by
    unfold spec_l1Split.l0
    rw [if_neg (by omega), if_pos (by omega), if_pos (by omega), if_pos (by omega)]
    rw [List.take_of_length_le (by rw [List.length_drop, ← size_len]; omega)] at hx
    rw [splitL_none 46 _ hx, Int.toNat_natCast, ext_end]
    rfl
  | m + 1, i, a, acc, him, hai, hx, hacc => by
    have hi : i < s.data.toList.length := by rw [← size_len]; omega
    unfold spec_l1Split.l0
    rw [if_pos (by omega), if_pos (by omega), bt_list s i hi, w64n (by omega)]
    have hd : s.data.toList.drop a = (s.data.toList.drop a).take (i - a) ++ s.data.toList[i] :: s.data.toList.drop (i + 1) := by
      conv => lhs; rw [← List.take_append_drop (i - a) (s.data.toList.drop a)]
      congr 1
      rw [List.drop_drop, show a + (i - a) = i by omega, List.drop_eq_getElem_cons hi]
    by_cases h : s.data.toList[i] = 46
    · rw [if_pos (by rw [h]; rfl), if_pos (by omega), if_pos (by omega), if_pos (by omega), if_pos (by omega), Int.toNat_natCast, Int.toNat_natCast, ext_mkB]
      rw [split_loop s hs m (i + 1) (i + 1) _ (by omega) (by omega) (by simp) (by simp; omega)]
      conv => rhs; rw [hd, h, splitL_hit 46 _ _ hx]
      simp
    · rw [if_neg (by intro e; apply h; apply UInt8.toNat_inj.1; simpa using Int.ofNat.inj e)]
      refine split_loop s hs m (i + 1) a acc (by omega) (by omega) ?_ hacc
      intro x hm
      rw [show i + 1 - a = (i - a) + 1 by omega, List.take_add_one] at hm
      rcases List.mem_append.1 hm with hm | hm
      · exact hx x hm
      · rw [List.getElem?_drop, show a + (i - a) = i by omega, List.getElem?_eq_getElem hi] at hm
        obtain rfl : x = s.data.toList[i] := by simpa using hm
        exact h

theorem split_ev (s : ByteArray) (hs : s.size < 1099511627776) : Ev (fun k => spec_l1Split.f k s 46) ((splitL 46 s.data.toList).map mkB) := by
  refine Ev.of (fun k => spec_l1Split.mono _ _ _) (k := s.size + 1) ?_
  unfold spec_l1Split.f
  have := split_loop s hs s.size 0 0 [] (by omega) (by omega) (by simp) (by simp)
  simpa using this

theorem within_spec (n a b : Int) : spec_l1In.f n a b = some (decide (a ≤ n ∧ n ≤ b)) := by
  unfold spec_l1In.f
  by_cases h : n ≥ a
  · rw [if_pos h]; congr 1; rw [decide_eq_decide]; omega
  · rw [if_neg h]; congr 1; rw [eq_comm, decide_eq_false_iff_not]; omega

theorem label_loop (s : ByteArray) (hs : s.size < 1099511627776) : ∀ (m i : Nat), i + m = s.size →
    spec_l1Label.l0 (m + 1) s (i : Int) = some ((s.data.toList.drop i).all labelByte && decide (1 ≤ s.data.toList.length ∧ s.data.toList.length ≤ 20))
  | 0, i, him => by
    unfold spec_l1Label.l0
    rw [if_neg (by omega), within_spec, List.drop_of_length_le (by rw [← size_len]; omega)]
    simp only [Option.bind_some, List.all_nil, Bool.true_and]
    congr 1
    rw [decide_eq_decide, ← size_len]
    omega
  | m + 1, i, him => by
    have hi : i < s.data.toList.length := by rw [← size_len]; omega
    have ih := label_loop s hs m (i + 1) (by omega)
    unfold spec_l1Label.l0
    rw [if_pos (by omega), if_pos (by omega), w64n (by omega), ih, bt_list s i hi, List.drop_eq_getElem_cons hi, List.all_cons]
    generalize (List.drop (i + 1) s.data.toList).all labelByte = rest
    generalize decide (1 ≤ s.data.toList.length ∧ s.data.toList.length ≤ 20) = len
    generalize s.data.toList[i] = b
    have hb : labelByte b = decide ((97 ≤ (b.toNat : Int) ∧ (b.toNat : Int) ≤ 122) ∨ (48 ≤ (b.toNat : Int) ∧ (b.toNat : Int) ≤ 57) ∨ (b.toNat : Int) = 45 ∨ (b.toNat : Int) = 95) := by
      unfold labelByte
      rw [Bool.eq_iff_iff]
      have h45 : b = 45 ↔ (b.toNat : Int) = 45 := by rw [← UInt8.toNat_inj]; exact ⟨fun h => by rw [h]; rfl, fun h => Int.ofNat.inj h⟩
      have h95 : b = 95 ↔ (b.toNat : Int) = 95 := by rw [← UInt8.toNat_inj]; exact ⟨fun h => by rw [h]; rfl, fun h => Int.ofNat.inj h⟩
      simp only [Bool.or_eq_true, decide_eq_true_eq, beq_iff_eq, h45, h95]
      omega
    rw [hb]
    generalize (b.toNat : Int) = v
    by_cases hv : (97 ≤ v ∧ v ≤ 122) ∨ (48 ≤ v ∧ v ≤ 57) ∨ v = 45 ∨ v = 95
    · rw [decide_eq_true hv, Bool.true_and]
      repeat' split
      all_goals first | rfl | omega
    · rw [decide_eq_false hv, Bool.false_and, Bool.false_and]
      repeat' split
      all_goals first | rfl | omega

theorem label_ev (s : ByteArray) (hs : s.size < 1099511627776) : Ev (fun k => spec_l1Label.f k s) (isLabelL s.data.toList) := by
  refine Ev.of (fun k => spec_l1Label.mono _ _) (k := s.size + 1) ?_
  unfold spec_l1Label.f isLabelL
  rw [Lib.toList_data]
  by_cases h : s.data.toList = [42]
  · rw [if_pos h, h]; rfl
  · rw [if_neg h, show (s.data.toList == [42]) = false from beq_eq_false_iff_ne.mpr h, Bool.false_or, Bool.and_comm]
    have := label_loop s hs s.size 0 (by omega)
    simpa using this

/-- The result of the reference's labels' loop. -/
def labsR (s : ByteArray) (parts : List ByteArray) (i : Nat) : List ByteArray × Bool :=
  if (parts.drop i).all (fun p => isLabelL p.data.toList) then (if s.size ≤ 60 then (parts, decide (parts.length ≤ 8)) else (parts, false)) else ([], false)

theorem labels_loop (s : ByteArray) (parts : List ByteArray) (hp : ∀ p ∈ parts, p.size < 1099511627776) (hl : parts.length < 1099511627776) : ∀ (m i : Nat), i + m = parts.length →
    Ev (fun k => spec_l1Labels.l0 k s parts parts (parts.length : Int) (i : Int)) (labsR s parts i)
  | 0, i, him => by
    refine Ev.step (f := fun k => some (labsR s parts i)) (fun k => ?_) (Ev.now _)
    show spec_l1Labels.l0 (k + 1) s parts parts (parts.length : Int) (i : Int) = _
    unfold spec_l1Labels.l0 labsR
    rw [if_neg (by omega), List.drop_of_length_le (by omega)]
    simp only [List.all_nil, if_true]
    by_cases h : s.size ≤ 60
    · rw [if_pos (by omega), if_pos h]
      congr 2
      rw [decide_eq_decide]; omega
    · rw [if_neg (by omega), if_neg h]
  | m + 1, i, him => by
    have hi : i < parts.length := by omega
    have ih := labels_loop s parts hp hl m (i + 1) (by omega)
    have hrd : rdOf ByteArray.empty parts (i : Int) = parts[i] := by
      unfold rdOf
      rw [Int.toNat_natCast, List.getD_eq_getElem?_getD, List.getElem?_eq_getElem hi]
      rfl
    refine Ev.step (f := fun k => (spec_l1Label.f k parts[i]).bind fun t => if t = true then spec_l1Labels.l0 k s parts parts (parts.length : Int) ((i + 1 : Nat) : Int) else some ([], false)) (fun k => ?_) ?_
    · show spec_l1Labels.l0 (k + 1) s parts parts (parts.length : Int) (i : Int) = _
      conv => lhs; unfold spec_l1Labels.l0
      rw [if_pos (by omega), if_pos (by omega), if_pos (by omega), hrd, w64n (by omega)]
    · refine Ev.bind (label_ev _ (hp _ (List.getElem_mem hi))) ?_
      have hd : labsR s parts i = if isLabelL parts[i].data.toList = true then labsR s parts (i + 1) else ([], false) := by
        unfold labsR
        rw [List.drop_eq_getElem_cons hi, List.all_cons]
        cases isLabelL parts[i].data.toList <;> simp
      rw [hd]
      by_cases h : isLabelL parts[i].data.toList = true
      · simp only [if_pos h]
        exact ih
      · simp only [if_neg h]
        exact Ev.now _

theorem splitL_len (c : UInt8) (l : List UInt8) : (splitL c l).length ≤ l.length + 1 := by
  induction l with
  | nil => simp [splitL]
  | cons x xs ih =>
    unfold splitL
    split
    · simp; omega
    · split
      · simp
      · rename_i e
        rw [e] at ih
        simp at ih ⊢
        omega
theorem splitL_part (c : UInt8) (l : List UInt8) : ∀ p ∈ splitL c l, p.length ≤ l.length := by
  induction l with
  | nil => simp [splitL]
  | cons x xs ih =>
    unfold splitL
    split
    · intro p hp
      rcases List.mem_cons.1 hp with rfl | hp
      · simp
      · have := ih p hp; simp; omega
    · split
      · simp
      · rename_i e
        rw [e] at ih
        intro p hp
        rcases List.mem_cons.1 hp with rfl | hp
        · have := ih _ List.mem_cons_self; simp; omega
        · have := ih p (List.mem_cons_of_mem _ hp); simp; omega

/-- What the reference's labels are. -/
theorem labels_ev (s : ByteArray) (hs : s.size < 549755813888) : ∃ r, Ev (fun k => spec_l1Labels.f k s) r ∧ r.2 = goodL s.data.toList ∧ (r.2 = true → r.1 = (labelsL s.data.toList).map mkB) := by
  by_cases h : s.data.toList = []
  · refine ⟨([], true), ?_, ?_, ?_⟩
    · refine Ev.congr (fun k => ?_) (Ev.now _)
      unfold spec_l1Labels.f
      rw [if_pos (by rw [Lib.toList_data]; exact h)]
    · rw [h]; decide
    · rw [h]; intro _; rfl
  · refine ⟨labsR s ((splitL 46 s.data.toList).map mkB) 0, ?_, ?_, ?_⟩
    · refine Ev.congr (f := fun k => (spec_l1Split.f k s 46).bind fun t => spec_l1Labels.l0 k s t t (t.length : Int) 0) (fun k => ?_) (Ev.bind (split_ev s (by omega)) ?_)
      · show spec_l1Labels.f k s = _
        unfold spec_l1Labels.f
        rw [if_neg (by rw [Lib.toList_data]; exact h)]
      · have hlen : ((splitL 46 s.data.toList).map mkB).length ≤ s.size + 1 := by rw [List.length_map, size_len]; exact splitL_len _ _
        refine labels_loop s _ ?_ (by omega) _ 0 (Nat.zero_add _)
        intro p hp
        obtain ⟨q, hq, rfl⟩ := List.mem_map.1 hp
        have := splitL_part 46 _ q hq
        rw [mkB_size]
        rw [← size_len] at this
        omega
    all_goals
      unfold labsR
      try unfold goodL
      rw [show labelsL s.data.toList = splitL 46 s.data.toList by unfold labelsL; rw [if_neg h]]
      simp only [List.drop_zero, List.all_map, Function.comp_def, mkB_data, List.length_map, ← size_len]
      by_cases h1 : (splitL 46 s.data.toList).all isLabelL = true
      · simp only [show (splitL 46 s.data.toList).all (fun p => isLabelL p) = true from h1]
        by_cases h2 : s.size ≤ 60
        · simp [h1, h2]
        · simp [h1, h2]
      · simp only [show (splitL 46 s.data.toList).all (fun p => isLabelL p) = false from Bool.eq_false_iff.mpr h1]
        simp [h1]

theorem good_ev (s : ByteArray) (hs : s.size < 549755813888) : ∃ r, Ev (fun k => spec_l1Labels.f k s) r ∧ r.2 = goodL s.data.toList := by
  obtain ⟨r, h1, h2, _⟩ := labels_ev s hs
  exact ⟨r, h1, h2⟩
end Go.Proofs.YtiegkjimpclmaaaGreatDoor.Pure

-- F127
-- By my own call of the kit's print (wip/tools/pp.py).
namespace Go.Proofs.YtiegkjimpclmaaaGreatDoor.P
open Go.RowKit Go.Proofs.YtiegkjimpclmaaaGreatDoorW.PrintWords Go.Proofs.YtiegkjimpclmaaaGreatDoorW.PrintLast Go.Proofs.YtiegkjimpclmaaaGreatDoorW.PrintMore
attribute [local go_sem] max2_int min2_int max_two min_two max_three min_three max_four min_four
set_option linter.unusedVariables false
set_option linter.unusedSimpArgs false

/-! ### spec_GoodName: function 127 -/
def spec_GoodName.f (k : Nat) (a0 : ByteArray) : Option (Bool) := (spec_l1Labels.f k a0).bind fun bt120 => (some bt120.2)
theorem spec_GoodName.mono : ∀ a0 k, LeO (spec_GoodName.f k a0) (spec_GoodName.f (k + 1) a0) := by
  intro a0 k
  unfold spec_GoodName.f
  repeat' first
      | (with_reducible exact spec_l1Labels.mono _ _)
      | (with_reducible exact LeO.refl _)
      | (with_reducible exact LeO.none _)
      | (with_reducible refine LeO.ite ?_ ?_)
      | (with_reducible refine LeO.bind ?_ (fun _ => ?_))
      | exact spec_l1Labels.mono _ _
      | exact LeO.none _
      | refine LeO.ite ?_ ?_
      | refine LeO.bind ?_ (fun _ => ?_)
set_option maxHeartbeats 8000000 in
set_option maxRecDepth 100000 in
theorem spec_GoodName.calls (k : Nat) (a0 : ByteArray) (r : Bool) (w : World) (h : spec_GoodName.f k a0 = some r) :
    Calls Tryz.prog 127 #[.string a0] w fun e w' => e = .returned (.bool r) ∧ Below w.heap.size w w' := by
  have HB := Aside0.mk (Below.refl w.heap.size w)
  have H : ((spec_l1Labels.f k a0).bind fun bt120 => (some bt120.2)) = some r := h
  clear h
  replace H := Option.bind_eq_some_iff.mp H
  obtain ⟨⟨t120, t121⟩, A20, H⟩ := H
  replace H : (some t121) = some r := H
  have A2 := Aside0.mk A20
  clear A20
  obtain rfl := Option.some.inj H
  go_enter Tryz.func127, Tryz.ntmps127
  go_wp2_with (first | ((with_reducible refine gate_callee (f := 171) rfl ?_); refine goesL_ (some 7) rfl rfl Tryz.func171 (by kernel_rfl) rfl #[.string a0] rfl (by (try simp only [List.map_toArray, List.map_cons, List.map_nil]); first | done | rfl | (simp only [List.length_drop, List.length_take]; rfl)) ?_; (with_reducible refine (spec_l1Labels.calls k a0 t120 t121 _ A2.out).mono ?_); rintro e w3 ⟨v122, rfl, ho0, hb⟩; refine ⟨_, rfl, ?_⟩; have n0_ := Aside0.mk (Kd.R_lower ho0 (below_size bq0_)); have n1_ := Aside0.mk (below_step bq0_ hb); clear HB; have HO123 := n0_; have HB := n1_; clear n0_ n1_; (try clear hb); (try clear hb2); (try clear hk); (try clear hi); (try clear ho0)))
  go_ret
  exact ⟨by first | rfl | (simp [errW_none, errW_some] <;> rfl) | (simp [*, errW_none, errW_some] <;> rfl), by repeat (first | (with_reducible first | exact HB.out | apply below_alloc | apply pw_below_drewN | apply below_drew1) | exact HB.out)⟩

end Go.Proofs.YtiegkjimpclmaaaGreatDoor.P

-- PureSGood
/- spec.GoodName returns goodL. Conditions: the text's size. -/
namespace Go.Proofs.YtiegkjimpclmaaaGreatDoor.Pure
open Go.RowKit Go.Proofs.YtiegkjimpclmaaaGreatDoor.P Go.Proofs.YtiegkjimpclmaaaGreatDoorW.PrintWords Go.Proofs.YtiegkjimpclmaaaGreatDoorW.PrintLast
set_option linter.unusedVariables false
set_option linter.unusedSimpArgs false

theorem specGood_ev (s : ByteArray) (hs : s.size < 549755813888) : Ev (fun k => spec_GoodName.f k s) (goodL s.data.toList) := by
  obtain ⟨r, h1, h2⟩ := good_ev s hs
  refine Ev.congr (f := fun k => (spec_l1Labels.f k s).bind fun bt => some bt.2) (fun k => rfl) (Ev.bind h1 ?_)
  rw [h2]
  exact Ev.now _
theorem good_size {l : List UInt8} (h : goodL l = true) : l.length ≤ 60 := by
  unfold goodL at h
  simp at h
  exact h.1

end Go.Proofs.YtiegkjimpclmaaaGreatDoor.Pure

-- HSmall
/- impl.small and spec.FoldName: the walks over the bytes of a text that are made small in place. Conditions: the text's size. -/
namespace Go.Proofs.YtiegkjimpclmaaaGreatDoor.P
open Go.RowKit Go.Proofs.YtiegkjimpclmaaaGreatDoorW.PrintWords Go.Proofs.YtiegkjimpclmaaaGreatDoorW.PrintLast Go.Proofs.YtiegkjimpclmaaaGreatDoorW.PrintMore
set_option linter.unusedVariables false
set_option linter.unusedSimpArgs false

def lowB (b : UInt8) : UInt8 := if 65 ≤ b.toNat ∧ b.toNat ≤ 90 then b + 32 else b
def lowV (s : ByteArray) (j : Nat) : Int := ((lowB (s.data.toList.getD j 0)).toNat : Int)

/-- The row of a text's bytes, the first kk of them made small. -/
def SmallAt (w : World) (g : Nat) (s : ByteArray) (kk : Nat) : Prop :=
  ∃ cs e fz, w.heap[g]? = some (.cells cs e fz) ∧ s.size ≤ fz.1 ∧ s.size ≤ cs.size ∧
    ∀ j, j < s.size → cs[j]? = some (.int .u8 (if j < kk then lowV s j else ((s.data.toList.getD j 0).toNat : Int)))

theorem SmallAt.cell {w : World} {g : Nat} {s : ByteArray} {kk : Nat} (h : SmallAt w g s kk) (j : Nat) (hj : j < s.size) : w.cell? ⟨g, j, none⟩ = some (.int .u8 (if j < kk then lowV s j else ((s.data.toList.getD j 0).toNat : Int))) := by
  obtain ⟨cs, e, fz, h1, h2, h3, h4⟩ := h
  simp [World.cell?, h1, h4 j hj]
theorem SmallAt.free {w : World} {g : Nat} {s : ByteArray} {kk : Nat} (h : SmallAt w g s kk) (j : Nat) (hj : j < s.size) : w.frozen? ⟨g, j, none⟩ = false := by
  obtain ⟨cs, e, fz, h1, h2, h3, h4⟩ := h
  obtain ⟨lo, hi⟩ := fz
  simp only [World.frozen?, h1, Bool.and_eq_false_iff, decide_eq_false_iff_not]
  left
  simp only at h2
  omega

theorem smallAt_start (w : World) (e : TypeId) (s : ByteArray) : SmallAt (Lib.bytesWorld w e s) w.heap.size s 0 := by
  have hcs : s.size ≤ (Lib.bytesCells w e s).size := by
    unfold Lib.bytesCells
    rw [Array.size_append, Array.size_map]
    show s.size ≤ s.size + _
    omega
  refine ⟨_, _, _, Lib.bytesWorld_at_new w e s, hcs, hcs, fun j hj => ?_⟩
  rw [if_neg (Nat.not_lt_zero _)]
  simp [Lib.bytesCells, Array.getElem?_append, List.getD, hj]
theorem low_skip {b : UInt8} (h : ¬ (65 ≤ b.toNat ∧ b.toNat ≤ 90)) : lowB b = b := by unfold lowB; rw [if_neg h]
theorem low_hit {b : UInt8} (h1 : 65 ≤ b.toNat) (h2 : b.toNat ≤ 90) : ((lowB b).toNat : Int) = (b.toNat : Int) + 32 := by
  unfold lowB
  rw [if_pos ⟨h1, h2⟩, UInt8.toNat_add]
  show (((b.toNat + 32) % 256 : Nat) : Int) = _
  omega
theorem SmallAt.skip {w : World} {g : Nat} {s : ByteArray} {kk : Nat} (h : SmallAt w g s kk) (hk : ¬ (65 ≤ (s.data.toList.getD kk 0).toNat ∧ (s.data.toList.getD kk 0).toNat ≤ 90)) : SmallAt w g s (kk + 1) := by
  obtain ⟨cs, e, fz, h1, h2, h3, h4⟩ := h
  refine ⟨cs, e, fz, h1, h2, h3, fun j hj => ?_⟩
  rw [h4 j hj]
  by_cases e1 : j < kk
  · rw [if_pos e1, if_pos (by omega)]
  · rw [if_neg e1]
    by_cases e2 : j = kk
    · subst e2
      rw [if_pos (by omega)]
      unfold lowV
      rw [low_skip hk]
    · rw [if_neg (by omega)]
theorem SmallAt.step {w : World} {g : Nat} {s : ByteArray} {kk : Nat} (h : SmallAt w g s kk) (hlt : kk < s.size) (v : Int) (hv : v = lowV s kk) : SmallAt (w.setCell ⟨g, kk, none⟩ (.int .u8 v)) g s (kk + 1) := by
  obtain ⟨cs, e, fz, h1, h2, h3, h4⟩ := h
  subst hv
  refine ⟨_, e, fz, by rw [setCell_eq_setRow w g kk cs e fz _ h1]; exact setRow_heap w g cs _ e fz h1, h2, by simpa using h3, fun j hj => ?_⟩
  rw [Array.getElem?_setIfInBounds]
  by_cases e2 : kk = j
  · subst e2
    rw [if_pos rfl, if_pos (by omega), if_pos (by omega)]
  · rw [if_neg e2, h4 j hj]
    by_cases e1 : j < kk
    · rw [if_pos e1, if_pos (by omega)]
    · rw [if_neg e1, if_neg (by omega)]
theorem SmallAt.below {w0 w : World} {g : Nat} {s : ByteArray} {kk : Nat} (h : SmallAt w g s kk) (hb : Below w0.heap.size w0 w) (hg : w0.heap.size ≤ g) (v : Value) : Below w0.heap.size w0 (w.setCell ⟨g, kk, none⟩ v) := by
  obtain ⟨cs, e, fz, h1, h2, h3, h4⟩ := h
  rw [setCell_eq_setRow w g kk cs e fz _ h1]
  exact ⟨hb.os, hb.tape, hb.output, by rw [setRow_size]; exact hb.size, fun k hk => by rw [setRow_other w g k _ (by omega)]; exact hb.block k hk⟩
def lowNums (s : ByteArray) : List Int := (List.range s.size).map (lowV s)
theorem SmallAt.reads {w : World} {g : Nat} {s : ByteArray} (h : SmallAt w g s s.size) (hs : s.size < 1099511627776) : ReadsInt w .u8 (some ⟨g, 0, none⟩) s.size (lowNums s) := by
  refine ⟨by simp [lowNums], by omega, fun _ => ⟨_, rfl, fun j hj => ?_⟩⟩
  have := h.cell j hj
  rw [if_pos hj] at this
  rw [add_plain, this]
  simp [lowNums, List.getD_eq_getElem?_getD, hj]
theorem lowNums_str (s : ByteArray) : strOfNums (lowNums s) = mkB (s.data.toList.map lowB) := by
  apply ext_data
  rw [strOfNums_data, mkB_data]
  apply List.ext_getElem?
  intro j
  unfold lowNums lowV
  simp only [List.getElem?_map, List.map_map]
  by_cases hj : j < s.size
  · have hj2 : j < s.data.toList.length := by rw [← size_len]; exact hj
    rw [List.getElem?_range hj, List.getElem?_eq_getElem hj2]
    simp [List.getD_eq_getElem?_getD, List.getElem?_eq_getElem hj2]
    rw [Array.getElem?_eq_getElem (show j < s.data.size from hj)]
    rfl
  · rw [List.getElem?_eq_none (by rw [List.length_range]; omega), List.getElem?_eq_none (by rw [← size_len]; omega)]
    rfl

set_option maxHeartbeats 2000000 in
theorem small_walk (s : ByteArray) (hs : s.size < 1099511627776) (w : World) :
    Calls Tryz.prog 176 #[.string s] w fun e w' => e = .returned (.string (mkB (s.data.toList.map lowB))) ∧ Below w.heap.size w w' := by
  have kb := fun W => print_bytes (P := Tryz.prog) 9 43 5 Tryz.underlying9 Tryz.underlying43 Tryz.underlying5 s W
  go_enter Tryz.func176, Tryz.ntmps176
  go_wp2
  go_loopg [4, 5, 10] s.size (fun gg _ _ v10 wr => ∃ kk : Nat, kk ≤ s.size ∧ s.size - kk ≤ gg ∧ v10 = .int .i64 kk ∧ Aside0 (Below w.heap.size w wr) ∧ Aside0 (SmallAt wr w.heap.size s kk))
  case atStart => exact ⟨0, Nat.zero_le _, by omega, rfl, ⟨bytes_below (Below.refl _ w) (Nat.le_refl _) _ s⟩, ⟨smallAt_start w _ s⟩⟩
  case round =>
    obtain ⟨kk, hkk, hg, rfl, BW, SA⟩ := hrel
    by_cases hlt : kk < s.size
    · have hltz : (kk : Int) < (s.size : Int) := by omega
      have hc := SA.out.cell kk hlt
      rw [if_neg (by omega)] at hc
      have hf := SA.out.free kk hlt
      have HV := Aside0.mk (show lowV s kk = ((lowB (s.data.toList.getD kk 0)).toNat : Int) from rfl)
      have HS := Aside0.mk (fun h => SA.out.skip (kk := kk) h)
      generalize s.data.toList.getD kk 0 = b at hc HV HS
      have hbl : b.toNat < 256 := b.toNat_lt
      by_cases h65 : 65 ≤ b.toNat
      · have h65d : decide ((65 : Int) ≤ (b.toNat : Int)) = true := decide_eq_true (by omega)
        by_cases h90 : b.toNat ≤ 90
        · have h90d : decide ((b.toNat : Int) ≤ 90) = true := decide_eq_true (by omega)
          go_wp2
          go_roundg (s.size - (kk + 1))
          case measure => omega
          case rel => exact ⟨kk + 1, by omega, by omega, by go_num, ⟨SA.out.below BW.out (Nat.le_refl _) _⟩, ⟨SA.out.step hlt _ (by rw [HV.out, low_hit h65 h90]; omega)⟩⟩
        · have h90d : decide ((b.toNat : Int) ≤ 90) = false := decide_eq_false (by omega)
          go_wp2
          go_roundg (s.size - (kk + 1))
          case measure => omega
          case rel => exact ⟨kk + 1, by omega, by omega, by go_num, BW, ⟨HS.out (by omega)⟩⟩
      · have h65d : decide ((65 : Int) ≤ (b.toNat : Int)) = false := decide_eq_false (by omega)
        go_wp2
        go_roundg (s.size - (kk + 1))
        case measure => omega
        case rel => exact ⟨kk + 1, by omega, by omega, by go_num, BW, ⟨HS.out (by omega)⟩⟩
    · have hltz : ¬ (kk : Int) < (s.size : Int) := by omega
      obtain rfl : kk = s.size := by omega
      have hst := fun c => string_of_reads (P := Tryz.prog) (src := 43) (dst := 9) (c := c) Tryz.underlying43 Tryz.underlying5 Tryz.underlying9 (SA.out.reads hs)
      rw [lowNums_str] at hst
      go_wp2
      go_ret
      exact ⟨rfl, BW.out⟩
def impl_small.f (s : ByteArray) : Option ByteArray := if s.size < 1099511627776 then some (mkB (s.data.toList.map lowB)) else none
theorem impl_small.calls (a0 : ByteArray) (r : ByteArray) (w : World) (h : impl_small.f a0 = some r) :
    Calls Tryz.prog 176 #[.string a0] w fun e w' => e = .returned (.string r) ∧ Below w.heap.size w w' := by
  unfold impl_small.f at h
  by_cases hs : a0.size < 1099511627776
  · rw [if_pos hs] at h
    obtain rfl := Option.some.inj h
    exact small_walk a0 hs w
  · rw [if_neg hs] at h
    cases h

/-- What the reference's FoldName returns. -/
def foldR (s : ByteArray) : ByteArray × Bool := if s.size ≤ 60 then (if goodL (s.data.toList.map lowB) = true then (mkB (s.data.toList.map lowB), true) else ((⟨#[]⟩ : ByteArray), false)) else ((⟨#[]⟩ : ByteArray), false)
def spec_FoldName.f (s : ByteArray) : Option (ByteArray × Bool) := some (foldR s)
theorem foldGood_calls (t : ByteArray) (ht : t.size ≤ 60) (W : World) : Calls Tryz.prog 127 #[.string t] W fun e W' => e = .returned (.bool (goodL t.data.toList)) ∧ Below W.heap.size W W' := by
  obtain ⟨k, hk⟩ := (Pure.specGood_ev t (by omega)).rounds
  exact spec_GoodName.calls k t _ W hk
set_option maxHeartbeats 4000000 in
theorem spec_FoldName.calls (a0 : ByteArray) (r1 : ByteArray) (r2 : Bool) (w : World) (h : spec_FoldName.f a0 = some (r1, r2)) :
    Calls Tryz.prog 169 #[.string a0] w fun e w' => e = .returned (.tuple #[.string r1, .bool r2]) ∧ Below w.heap.size w w' := by
  have HR := Aside0.mk (Option.some.inj h)
  clear h
  unfold foldR at HR
  by_cases h60 : a0.size ≤ 60
  · have h60d : decide ((60 : Int) < (a0.size : Int)) = false := decide_eq_false (by omega)
    have h60e : decide (60 < a0.size) = false := decide_eq_false (by omega)
    rw [if_pos h60] at HR
    have hs : a0.size < 1099511627776 := by omega
    have HS60 := Aside0.mk h60
    clear h60
    have gc := fun W => foldGood_calls (mkB (a0.data.toList.map lowB)) (by rw [mkB_size, List.length_map, ← size_len]; exact HS60.out) W
    rw [mkB_data] at gc
    generalize goodL (a0.data.toList.map lowB) = gd at gc HR
    have kb := fun W => print_bytes (P := Tryz.prog) 9 43 5 Tryz.underlying9 Tryz.underlying43 Tryz.underlying5 a0 W
    go_enter Tryz.func169, Tryz.ntmps169
    go_wp2
    go_loopg [5, 6, 14] a0.size (fun gg _ _ v10 wr => ∃ kk : Nat, kk ≤ a0.size ∧ a0.size - kk ≤ gg ∧ v10 = .int .i64 kk ∧ Aside0 (Below w.heap.size w wr) ∧ Aside0 (SmallAt wr w.heap.size a0 kk))
    case atStart => exact ⟨0, Nat.zero_le _, by omega, rfl, ⟨bytes_below (Below.refl _ w) (Nat.le_refl _) _ a0⟩, ⟨smallAt_start w _ a0⟩⟩
    case round =>
      obtain ⟨kk, hkk, hg, rfl, BW, SA⟩ := hrel
      by_cases hlt : kk < a0.size
      · clear gc
        have hltz : (kk : Int) < (a0.size : Int) := by omega
        have hc := SA.out.cell kk hlt
        rw [if_neg (by omega)] at hc
        have hf := SA.out.free kk hlt
        have HV := Aside0.mk (show lowV a0 kk = ((lowB (a0.data.toList.getD kk 0)).toNat : Int) from rfl)
        have HS := Aside0.mk (fun h => SA.out.skip (kk := kk) h)
        generalize a0.data.toList.getD kk 0 = b at hc HV HS
        have hbl : b.toNat < 256 := b.toNat_lt
        by_cases h65 : 65 ≤ b.toNat
        · have h65d : decide ((65 : Int) ≤ (b.toNat : Int)) = true := decide_eq_true (by omega)
          by_cases h90 : b.toNat ≤ 90
          · have h90d : decide ((b.toNat : Int) ≤ 90) = true := decide_eq_true (by omega)
            go_wp2
            go_roundg (a0.size - (kk + 1))
            case measure => omega
            case rel => exact ⟨kk + 1, by omega, by omega, by go_num, ⟨SA.out.below BW.out (Nat.le_refl _) _⟩, ⟨SA.out.step hlt _ (by rw [HV.out, low_hit h65 h90])⟩⟩
          · have h90d : decide ((b.toNat : Int) ≤ 90) = false := decide_eq_false (by omega)
            go_wp2
            go_roundg (a0.size - (kk + 1))
            case measure => omega
            case rel => exact ⟨kk + 1, by omega, by omega, by go_num, BW, ⟨HS.out (by omega)⟩⟩
        · have h65d : decide ((65 : Int) ≤ (b.toNat : Int)) = false := decide_eq_false (by omega)
          go_wp2
          go_roundg (a0.size - (kk + 1))
          case measure => omega
          case rel => exact ⟨kk + 1, by omega, by omega, by go_num, BW, ⟨HS.out (by omega)⟩⟩
      · have hltz : ¬ (kk : Int) < (a0.size : Int) := by omega
        obtain rfl : kk = a0.size := by omega
        have hst := fun c => string_of_reads (P := Tryz.prog) (src := 43) (dst := 9) (c := c) Tryz.underlying43 Tryz.underlying5 Tryz.underlying9 (SA.out.reads hs)
        rw [lowNums_str] at hst
        have hst2 := Aside0.mk (fun W hb c => string_of_reads (P := Tryz.prog) (src := 43) (dst := 9) (c := c) Tryz.underlying43 Tryz.underlying5 Tryz.underlying9 ((SA.out.reads hs).below (w1 := W) hb))
        cases gd with
        | true =>
          obtain ⟨rfl, rfl⟩ := Prod.mk.inj HR.out
          clear HR
          go_wp2_with (first | (go_at_call 127; refine (gc _).mono ?_; rintro e w1 ⟨rfl, hb⟩; have hst3 := hst2.out w1 hb; rw [lowNums_str] at hst3))
          go_ret2
          exact ⟨rfl, below_then BW.out BW.out.size hb⟩
        | false =>
          obtain ⟨rfl, rfl⟩ := Prod.mk.inj HR.out
          clear HR
          go_wp2_with (first | (go_at_call 127; refine (gc _).mono ?_; rintro e w1 ⟨rfl, hb⟩; have hst3 := hst2.out w1 hb; rw [lowNums_str] at hst3))
          go_ret2
          exact ⟨rfl, below_then BW.out BW.out.size hb⟩
  · have h60d : decide ((60 : Int) < (a0.size : Int)) = true := decide_eq_true (by omega)
    have h60e : decide (60 < a0.size) = true := decide_eq_true (by omega)
    rw [if_neg h60] at HR
    obtain ⟨rfl, rfl⟩ := Prod.mk.inj HR.out
    clear HR
    go_enter Tryz.func169, Tryz.ntmps169
    go_wp2
    go_ret2
    exact ⟨rfl, Below.refl _ _⟩
end Go.Proofs.YtiegkjimpclmaaaGreatDoor.P
