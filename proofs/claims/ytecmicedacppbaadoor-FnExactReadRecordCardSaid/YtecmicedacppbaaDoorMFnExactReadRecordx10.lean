/- FnExactReadRecord: part 11 of 25 of my texts for this claim, joined; the theorem stands in the last. Conditions: none beyond the statement's. -/
import Derived.Test.YtecmicedacppbaaDoorMFnExactReadRecordx3
import Derived.Test.YtecmicedacppbaaDoorMFnExactReadRecordx7
import Derived.Test.YtecmicedacppbaaDoorMFnExactReadRecordx9
-- F18
-- By my own call of the kit's print (wip/tools/pp.py).
namespace Go.Proofs.YtecmicedacppbaaDoor.P
open Go.RowKit Go.Proofs.YtecmicedacppbaaDoorW.PrintWords Go.Proofs.YtecmicedacppbaaDoorW.PrintLast Go.Proofs.YtecmicedacppbaaDoorW.PrintMore
attribute [local go_sem] max2_int min2_int max_two min_two max_three min_three max_four min_four
set_option linter.unusedVariables false
set_option linter.unusedSimpArgs false

/-! ### spec_ReadRecord: function 18 -/
def spec_ReadRecord.j0 : Nat → ByteArray → ByteArray → Int → Int → ByteArray → Option (ByteArray × Int × Int × ByteArray × Bool)
  | 0, _, _, _, _, _ => none
  | k + 1, x0, x331000, x331001, x331002, x331003 => (spec_GoodRecord.f k x331000 x331001 x331002 x331003).bind fun t331 => (if t331 = true then ((spec_l3Text.f k x331000 x331001 x331002 x331003).bind fun t332 => (if t332.toList = x0.toList then (some (x331000, x331001, x331002, x331003, true)) else (some ((⟨#[]⟩ : ByteArray), 0, 0, (⟨#[]⟩ : ByteArray), false)))) else (some ((⟨#[]⟩ : ByteArray), 0, 0, (⟨#[]⟩ : ByteArray), false)))
def spec_ReadRecord.f (k : Nat) (a0 : ByteArray) : Option (ByteArray × Int × Int × ByteArray × Bool) := (spec_l1Split.f k a0 32).bind fun t319 => (if (t319.length : Int) < 4 then (some ((⟨#[]⟩ : ByteArray), 0, 0, (⟨#[]⟩ : ByteArray), false)) else (if 0 < (t319.length : Int) then (if 1 < (t319.length : Int) then ((spec_l1Int.f k (rdOf ByteArray.empty t319 1)).bind fun t324 => (if 2 < (t319.length : Int) then ((spec_l1Int.f k (rdOf ByteArray.empty t319 2)).bind fun t326 => (if 0 ≤ (wrap64 ((wrap64 ((wrap64 (((rdOf ByteArray.empty t319 0).size : Int) + ((rdOf ByteArray.empty t319 1).size : Int))) + ((rdOf ByteArray.empty t319 2).size : Int))) + 3)) then (if (wrap64 ((wrap64 ((wrap64 (((rdOf ByteArray.empty t319 0).size : Int) + ((rdOf ByteArray.empty t319 1).size : Int))) + ((rdOf ByteArray.empty t319 2).size : Int))) + 3)) ≤ (a0.size : Int) then (if (rdOf ByteArray.empty t319 0).toList = ([46] : List UInt8) then (spec_ReadRecord.j0 k a0 (⟨#[]⟩ : ByteArray) t326 t324 (a0.extract ((wrap64 ((wrap64 ((wrap64 (((rdOf ByteArray.empty t319 0).size : Int) + ((rdOf ByteArray.empty t319 1).size : Int))) + ((rdOf ByteArray.empty t319 2).size : Int))) + 3)) : Int).toNat a0.size)) else (spec_ReadRecord.j0 k a0 (rdOf ByteArray.empty t319 0) t326 t324 (a0.extract ((wrap64 ((wrap64 ((wrap64 (((rdOf ByteArray.empty t319 0).size : Int) + ((rdOf ByteArray.empty t319 1).size : Int))) + ((rdOf ByteArray.empty t319 2).size : Int))) + 3)) : Int).toNat a0.size))) else (none)) else (none))) else (none))) else (none)) else (none)))
theorem spec_ReadRecord.mono_l : ∀ k, (∀ y0 y1 y2 y3 y4, LeO (spec_ReadRecord.j0 k y0 y1 y2 y3 y4) (spec_ReadRecord.j0 (k + 1) y0 y1 y2 y3 y4))
  | 0 => fun _ _ _ _ _ r h => by simp [spec_ReadRecord.j0] at h
  | k + 1 => by
    have ih0 := spec_ReadRecord.mono_l k
    · intro y0 y1 y2 y3 y4
      unfold spec_ReadRecord.j0
      repeat' first
      | (with_reducible exact ih0 _ _ _ _ _)
      | (with_reducible exact spec_GoodRecord.mono _ _ _ _ _)
      | (with_reducible exact spec_l1Int.mono _ _)
      | (with_reducible exact spec_l1Split.mono _ _ _)
      | (with_reducible exact spec_l3Text.mono _ _ _ _ _)
      | (with_reducible exact LeO.refl _)
      | (with_reducible exact LeO.none _)
      | (with_reducible refine LeO.ite ?_ ?_)
      | (with_reducible refine LeO.bind ?_ (fun _ => ?_))
      | exact ih0 _ _ _ _ _
      | exact spec_GoodRecord.mono _ _ _ _ _
      | exact spec_l1Int.mono _ _
      | exact spec_l1Split.mono _ _ _
      | exact spec_l3Text.mono _ _ _ _ _
      | exact LeO.none _
      | refine LeO.ite ?_ ?_
      | refine LeO.bind ?_ (fun _ => ?_)
theorem spec_ReadRecord.mono : ∀ a0 k, LeO (spec_ReadRecord.f k a0) (spec_ReadRecord.f (k + 1) a0) := by
  intro a0 k
  have ih0 := spec_ReadRecord.mono_l k
  unfold spec_ReadRecord.f
  repeat' first
      | (with_reducible exact ih0 _ _ _ _ _)
      | (with_reducible exact spec_GoodRecord.mono _ _ _ _ _)
      | (with_reducible exact spec_l1Int.mono _ _)
      | (with_reducible exact spec_l1Split.mono _ _ _)
      | (with_reducible exact spec_l3Text.mono _ _ _ _ _)
      | (with_reducible exact LeO.refl _)
      | (with_reducible exact LeO.none _)
      | (with_reducible refine LeO.ite ?_ ?_)
      | (with_reducible refine LeO.bind ?_ (fun _ => ?_))
      | exact ih0 _ _ _ _ _
      | exact spec_GoodRecord.mono _ _ _ _ _
      | exact spec_l1Int.mono _ _
      | exact spec_l1Split.mono _ _ _
      | exact spec_l3Text.mono _ _ _ _ _
      | exact LeO.none _
      | refine LeO.ite ?_ ?_
      | refine LeO.bind ?_ (fun _ => ?_)
def spec_ReadRecord.T4 : Bool × List (List Nat × List Nat) := (true, [([], []), ([0], [0]), ([1], [1]), ([], []), ([3], [3]), ([4], [4]), ([5], [5]), ([], []), ([7], [7]), ([8], [8]), ([9, 6], [9]), ([], []), ([], []), ([12], [12]), ([13], [13]), ([14], [14]), ([], []), ([16], [16]), ([17], [17]), ([18], [18]), ([15, 19], [15, 19]), ([], []), ([21], [21]), ([22], [22]), ([23], [23]), ([20, 24], [20, 24]), ([25], [25]), ([11, 26], [11, 26]), ([2, 6, 10, 27], [2, 6, 10, 27]), ([], []), ([29, 28, 10, 0, 1, 2, 3, 4, 5, 6, 7, 8, 9, 10, 11, 12, 13, 14, 15, 16, 17, 18, 19, 20, 21, 22, 23, 24, 25, 26, 27, 28, 29], [28, 29])])
def spec_ReadRecord.B4 : List Nat := [0, 1, 3, 0, 8, 24, 56, 0, 128, 384, 1016, 0, 0, 4096, 12288, 28672, 0, 65536, 196608, 458752, 1044480, 0, 2097152, 6291456, 14680064, 33550336, 67104768, 134215680, 268435455, 0, 1073741823]
theorem spec_ReadRecord.tab4 : rtab .any (opsOf Tryd.f18 4) = spec_ReadRecord.T4 := by kernel_rfl
theorem spec_ReadRecord.bits4 : waitsOk spec_ReadRecord.T4.2 spec_ReadRecord.B4 = true := by kernel_rfl
set_option maxHeartbeats 8000000 in
set_option maxRecDepth 100000 in
theorem spec_ReadRecord.calls (k : Nat) (a0 : ByteArray) (r1 : ByteArray) (r2 : Int) (r3 : Int) (r4 : ByteArray) (r5 : Bool) (w : World) (h : spec_ReadRecord.f k a0 = some (r1, r2, r3, r4, r5)) :
    Calls Tryd.prog 18 #[.string a0] w fun e w' => e = .returned (.tuple #[.agg #[.string r1, .int .i64 r2, .int .i64 r3, .string r4], .bool r5]) ∧ Below w.heap.size w w' := by
  have hu29 := Tryd.underlying29
  have HB := Aside0.mk (Below.refl w.heap.size w)
  have H : ((spec_l1Split.f k a0 32).bind fun t319 => (if (t319.length : Int) < 4 then (some ((⟨#[]⟩ : ByteArray), 0, 0, (⟨#[]⟩ : ByteArray), false)) else (if 0 < (t319.length : Int) then (if 1 < (t319.length : Int) then ((spec_l1Int.f k (rdOf ByteArray.empty t319 1)).bind fun t324 => (if 2 < (t319.length : Int) then ((spec_l1Int.f k (rdOf ByteArray.empty t319 2)).bind fun t326 => (if 0 ≤ (wrap64 ((wrap64 ((wrap64 (((rdOf ByteArray.empty t319 0).size : Int) + ((rdOf ByteArray.empty t319 1).size : Int))) + ((rdOf ByteArray.empty t319 2).size : Int))) + 3)) then (if (wrap64 ((wrap64 ((wrap64 (((rdOf ByteArray.empty t319 0).size : Int) + ((rdOf ByteArray.empty t319 1).size : Int))) + ((rdOf ByteArray.empty t319 2).size : Int))) + 3)) ≤ (a0.size : Int) then (if (rdOf ByteArray.empty t319 0).toList = ([46] : List UInt8) then (spec_ReadRecord.j0 k a0 (⟨#[]⟩ : ByteArray) t326 t324 (a0.extract ((wrap64 ((wrap64 ((wrap64 (((rdOf ByteArray.empty t319 0).size : Int) + ((rdOf ByteArray.empty t319 1).size : Int))) + ((rdOf ByteArray.empty t319 2).size : Int))) + 3)) : Int).toNat a0.size)) else (spec_ReadRecord.j0 k a0 (rdOf ByteArray.empty t319 0) t326 t324 (a0.extract ((wrap64 ((wrap64 ((wrap64 (((rdOf ByteArray.empty t319 0).size : Int) + ((rdOf ByteArray.empty t319 1).size : Int))) + ((rdOf ByteArray.empty t319 2).size : Int))) + 3)) : Int).toNat a0.size))) else (none)) else (none))) else (none))) else (none)) else (none)))) = some (r1, r2, r3, r4, r5) := h
  clear h
  replace H := Option.bind_eq_some_iff.mp H
  obtain ⟨t319, A20, H⟩ := H
  replace H : (if (t319.length : Int) < 4 then (some ((⟨#[]⟩ : ByteArray), 0, 0, (⟨#[]⟩ : ByteArray), false)) else (if 0 < (t319.length : Int) then (if 1 < (t319.length : Int) then ((spec_l1Int.f k (rdOf ByteArray.empty t319 1)).bind fun t324 => (if 2 < (t319.length : Int) then ((spec_l1Int.f k (rdOf ByteArray.empty t319 2)).bind fun t326 => (if 0 ≤ (wrap64 ((wrap64 ((wrap64 (((rdOf ByteArray.empty t319 0).size : Int) + ((rdOf ByteArray.empty t319 1).size : Int))) + ((rdOf ByteArray.empty t319 2).size : Int))) + 3)) then (if (wrap64 ((wrap64 ((wrap64 (((rdOf ByteArray.empty t319 0).size : Int) + ((rdOf ByteArray.empty t319 1).size : Int))) + ((rdOf ByteArray.empty t319 2).size : Int))) + 3)) ≤ (a0.size : Int) then (if (rdOf ByteArray.empty t319 0).toList = ([46] : List UInt8) then (spec_ReadRecord.j0 k a0 (⟨#[]⟩ : ByteArray) t326 t324 (a0.extract ((wrap64 ((wrap64 ((wrap64 (((rdOf ByteArray.empty t319 0).size : Int) + ((rdOf ByteArray.empty t319 1).size : Int))) + ((rdOf ByteArray.empty t319 2).size : Int))) + 3)) : Int).toNat a0.size)) else (spec_ReadRecord.j0 k a0 (rdOf ByteArray.empty t319 0) t326 t324 (a0.extract ((wrap64 ((wrap64 ((wrap64 (((rdOf ByteArray.empty t319 0).size : Int) + ((rdOf ByteArray.empty t319 1).size : Int))) + ((rdOf ByteArray.empty t319 2).size : Int))) + 3)) : Int).toNat a0.size))) else (none)) else (none))) else (none))) else (none)) else (none))) = some (r1, r2, r3, r4, r5) := H
  have A2 := Aside0.mk A20
  clear A20
  by_cases c3 : (t319.length : Int) < 4
  · rw [if_pos c3] at H
    have c3b0 : decide ((t319.length : Int) < 4) = true := decide_eq_true c3
    have c3b1 : decide (t319.length < 4) = true := decide_eq_true (by omega)
    clear c3
    simp only [Option.some.injEq, Prod.mk.injEq] at H
    obtain ⟨rfl, rfl, rfl, rfl, rfl⟩ := H
    go_enter Tryd.func18, Tryd.ntmps18
    go_wp2_with (first | ((with_reducible refine gate_dst (N := 2) rfl ?_); refine box_event ?hg (N := 2) ?hd (cs := #[.string (⟨#[]⟩ : ByteArray), .int .i64 0, .int .i64 0, .string (⟨#[]⟩ : ByteArray)]) (t := 29) ?hr ?_; (case hd => rfl); (case hg => rfl); (case hr => first | (go_simp; done) | (go_simp; rfl)); intro gb318 hg w4 hbox hb; have n0_ := Aside0.mk (below_step (by repeat (first | (with_reducible first | exact HB.out | apply below_alloc | apply pw_below_drewN | apply below_drew1) | exact HB.out)) hb); have n1_ := Aside0.mk (hbox); have n2_ := Aside0.mk ((by rw [hg]; exact (below_size (by repeat (first | (with_reducible first | exact HB.out | apply below_alloc | apply pw_below_drewN | apply below_drew1) | exact HB.out))) : w.heap.size ≤ gb318)); have n3_ := Aside0.mk ((by rw [hg]; exact (below_size (by repeat (first | (with_reducible first | exact HB.out | apply below_alloc | apply pw_below_drewN | apply below_drew1) | exact HB.out))) : w.heap.size ≤ gb318)); clear HB; have HB := n0_; have BK318 := n1_; have GW318 := n2_; have GE318 := n3_; clear n0_ n1_ n2_ n3_; clear hb hbox hg) | ((with_reducible refine gate_callee (f := 38) rfl ?_); refine goesL_ (some 7) rfl rfl Tryd.func38 (by kernel_rfl) rfl #[.string a0, .int .u8 32] rfl (by (try simp only [List.map_toArray, List.map_cons, List.map_nil]); first | done | rfl | (simp only [List.length_drop, List.length_take]; rfl)) ?_; (with_reducible refine (spec_l1Split.calls k a0 32 t319 _ A2.out).mono ?_); rintro e w5 ⟨v320, rfl, ho0, hb⟩; refine ⟨_, rfl, ?_⟩; have n0_ := Aside0.mk (Kd.R_lower ho0 (below_size (by repeat (first | (with_reducible first | exact HB.out | apply below_alloc | apply pw_below_drewN | apply below_drew1 | refine below_set ?_ GE318.out) | exact HB.out)))); have n1_ := Aside0.mk (blk_below (g := gb318) (o := .cells #[.string (⟨#[]⟩ : ByteArray), .int .i64 0, .int .i64 0, .string (⟨#[]⟩ : ByteArray)] 29 (0, 0)) (by (with_reducible repeat (first | refine blk_drewN ?_ _ | refine blk_drew ?_ | refine blk_alloc ?_ _)); exact BK318.out) hb); have n2_ := Aside0.mk (below_step (by repeat (first | (with_reducible first | exact HB.out | apply below_alloc | apply pw_below_drewN | apply below_drew1 | refine below_set ?_ GE318.out) | exact HB.out)) hb); clear BK318; clear HB; have HO321 := n0_; have BK318 := n1_; have HB := n2_; clear n0_ n1_ n2_; (try clear hb); (try clear hb2); (try clear hk); (try clear hi); (try clear ho0); obtain ⟨Ao6, co6, eo6⟩ := Kd.R_slice HO321.out; subst eo6; have hcz7_0 : w5.cell? ⟨gb318, 0, none⟩ = some (.string (⟨#[]⟩ : ByteArray)) := (blk_cell BK318.out 0).trans rfl; have hcz7_1 : w5.cell? ⟨gb318, 1, none⟩ = some (.int .i64 0) := (blk_cell BK318.out 1).trans rfl; have hcz7_2 : w5.cell? ⟨gb318, 2, none⟩ = some (.int .i64 0) := (blk_cell BK318.out 2).trans rfl; have hcz7_3 : w5.cell? ⟨gb318, 3, none⟩ = some (.string (⟨#[]⟩ : ByteArray)) := (blk_cell BK318.out 3).trans rfl; have hfz7_0 := blk_frozen BK318.out 0; have hfz7_1 := blk_frozen BK318.out 1; have hfz7_2 := blk_frozen BK318.out 2; have hfz7_3 := blk_frozen BK318.out 3))
    refine bodyPost_ret (results_ct rfl _ _ gb318 29 #[.string (⟨#[]⟩ : ByteArray), .int .i64 0, .int .i64 0, .string (⟨#[]⟩ : ByteArray)] (0, 0) _ rfl (by (with_reducible repeat (first | refine blk_drewN ?_ _ | refine blk_drew ?_ | refine blk_alloc ?_ _)); refine blk_put (cs := #[.string (⟨#[]⟩ : ByteArray), .int .i64 0, .int .i64 0, .string (⟨#[]⟩ : ByteArray)]) ?_ 3 _ rfl; (with_reducible repeat (first | refine blk_drewN ?_ _ | refine blk_drew ?_ | refine blk_alloc ?_ _)); refine blk_put (cs := #[.string (⟨#[]⟩ : ByteArray), .int .i64 0, .int .i64 0, .string (⟨#[]⟩ : ByteArray)]) ?_ 2 _ rfl; (with_reducible repeat (first | refine blk_drewN ?_ _ | refine blk_drew ?_ | refine blk_alloc ?_ _)); refine blk_put (cs := #[.string (⟨#[]⟩ : ByteArray), .int .i64 0, .int .i64 0, .string (⟨#[]⟩ : ByteArray)]) ?_ 1 _ rfl; (with_reducible repeat (first | refine blk_drewN ?_ _ | refine blk_drew ?_ | refine blk_alloc ?_ _)); refine blk_put (cs := #[.string (⟨#[]⟩ : ByteArray), .int .i64 0, .int .i64 0, .string (⟨#[]⟩ : ByteArray)]) ?_ 0 _ rfl; (with_reducible repeat (first | refine blk_drewN ?_ _ | refine blk_drew ?_ | refine blk_alloc ?_ _)); exact BK318.out) Tryd.underlying29 rfl (by kernel_rfl)) rfl ?_
    exact ⟨by first | rfl | (simp [errW_none, errW_some] <;> rfl) | (simp [*, errW_none, errW_some] <;> rfl), by repeat (first | (with_reducible first | exact HB.out | apply below_alloc | apply pw_below_drewN | apply below_drew1 | refine below_set ?_ GE318.out) | exact HB.out)⟩
  · rw [if_neg c3] at H
    have c3b0 : decide ((t319.length : Int) < 4) = false := decide_eq_false c3
    have c3b1 : decide (t319.length < 4) = false := decide_eq_false (by omega)
    clear c3
    by_cases c8 : 0 < (t319.length : Int)
    · rw [if_pos c8] at H
      have c8b0 : decide (0 < (t319.length : Int)) = true := decide_eq_true c8
      have c8b1 : decide (0 < t319.length) = true := decide_eq_true (by omega)
      clear c8
      by_cases c9 : 1 < (t319.length : Int)
      · rw [if_pos c9] at H
        have c9b0 : decide (1 < (t319.length : Int)) = true := decide_eq_true c9
        have c9b1 : decide (1 < t319.length) = true := decide_eq_true (by omega)
        clear c9
        replace H := Option.bind_eq_some_iff.mp H
        obtain ⟨t324, A100, H⟩ := H
        replace H : (if 2 < (t319.length : Int) then ((spec_l1Int.f k (rdOf ByteArray.empty t319 2)).bind fun t326 => (if 0 ≤ (wrap64 ((wrap64 ((wrap64 (((rdOf ByteArray.empty t319 0).size : Int) + ((rdOf ByteArray.empty t319 1).size : Int))) + ((rdOf ByteArray.empty t319 2).size : Int))) + 3)) then (if (wrap64 ((wrap64 ((wrap64 (((rdOf ByteArray.empty t319 0).size : Int) + ((rdOf ByteArray.empty t319 1).size : Int))) + ((rdOf ByteArray.empty t319 2).size : Int))) + 3)) ≤ (a0.size : Int) then (if (rdOf ByteArray.empty t319 0).toList = ([46] : List UInt8) then (spec_ReadRecord.j0 k a0 (⟨#[]⟩ : ByteArray) t326 t324 (a0.extract ((wrap64 ((wrap64 ((wrap64 (((rdOf ByteArray.empty t319 0).size : Int) + ((rdOf ByteArray.empty t319 1).size : Int))) + ((rdOf ByteArray.empty t319 2).size : Int))) + 3)) : Int).toNat a0.size)) else (spec_ReadRecord.j0 k a0 (rdOf ByteArray.empty t319 0) t326 t324 (a0.extract ((wrap64 ((wrap64 ((wrap64 (((rdOf ByteArray.empty t319 0).size : Int) + ((rdOf ByteArray.empty t319 1).size : Int))) + ((rdOf ByteArray.empty t319 2).size : Int))) + 3)) : Int).toNat a0.size))) else (none)) else (none))) else (none)) = some (r1, r2, r3, r4, r5) := H
        have A10 := Aside0.mk A100
        clear A100
        by_cases c11 : 2 < (t319.length : Int)
        · rw [if_pos c11] at H
          have c11b0 : decide (2 < (t319.length : Int)) = true := decide_eq_true c11
          have c11b1 : decide (2 < t319.length) = true := decide_eq_true (by omega)
          clear c11
          replace H := Option.bind_eq_some_iff.mp H
          obtain ⟨t326, A120, H⟩ := H
          replace H : (if 0 ≤ (wrap64 ((wrap64 ((wrap64 (((rdOf ByteArray.empty t319 0).size : Int) + ((rdOf ByteArray.empty t319 1).size : Int))) + ((rdOf ByteArray.empty t319 2).size : Int))) + 3)) then (if (wrap64 ((wrap64 ((wrap64 (((rdOf ByteArray.empty t319 0).size : Int) + ((rdOf ByteArray.empty t319 1).size : Int))) + ((rdOf ByteArray.empty t319 2).size : Int))) + 3)) ≤ (a0.size : Int) then (if (rdOf ByteArray.empty t319 0).toList = ([46] : List UInt8) then (spec_ReadRecord.j0 k a0 (⟨#[]⟩ : ByteArray) t326 t324 (a0.extract ((wrap64 ((wrap64 ((wrap64 (((rdOf ByteArray.empty t319 0).size : Int) + ((rdOf ByteArray.empty t319 1).size : Int))) + ((rdOf ByteArray.empty t319 2).size : Int))) + 3)) : Int).toNat a0.size)) else (spec_ReadRecord.j0 k a0 (rdOf ByteArray.empty t319 0) t326 t324 (a0.extract ((wrap64 ((wrap64 ((wrap64 (((rdOf ByteArray.empty t319 0).size : Int) + ((rdOf ByteArray.empty t319 1).size : Int))) + ((rdOf ByteArray.empty t319 2).size : Int))) + 3)) : Int).toNat a0.size))) else (none)) else (none)) = some (r1, r2, r3, r4, r5) := H
          have A12 := Aside0.mk A120
          clear A120
          obtain ⟨ji13, hji13⟩ : ∃ j_ : Int, (wrap64 ((wrap64 ((wrap64 (((rdOf ByteArray.empty t319 0).size : Int) + ((rdOf ByteArray.empty t319 1).size : Int))) + ((rdOf ByteArray.empty t319 2).size : Int))) + 3)) = j_ := ⟨_, rfl⟩
          replace H : (if 0 ≤ (ji13) then (if (ji13) ≤ (a0.size : Int) then (if (rdOf ByteArray.empty t319 0).toList = ([46] : List UInt8) then (spec_ReadRecord.j0 k a0 (⟨#[]⟩ : ByteArray) t326 t324 (a0.extract ((ji13) : Int).toNat a0.size)) else (spec_ReadRecord.j0 k a0 (rdOf ByteArray.empty t319 0) t326 t324 (a0.extract ((ji13) : Int).toNat a0.size))) else (none)) else (none)) = some (r1, r2, r3, r4, r5) := by first | (rw [hji13] at H; exact H) | (simp only [hji13] at H ⊢; exact H)
          (try rw [hji13] at A2)
          (try rw [hji13] at A10)
          (try rw [hji13] at A12)
          have hji13w : (IntKind.i64.wrap ((wrap64 ((wrap64 (((rdOf ByteArray.empty t319 0).size : Int) + ((rdOf ByteArray.empty t319 1).size : Int))) + ((rdOf ByteArray.empty t319 2).size : Int))) + 3)) = ji13 := (i64_w _).trans hji13
          by_cases c14 : 0 ≤ (ji13)
          · rw [if_pos c14] at H
            have c14b0 := eq_true c14
            have c14b1 : decide (0 ≤ (ji13)) = true := decide_eq_true c14
            clear c14
            by_cases c15 : (ji13) ≤ (a0.size : Int)
            · rw [if_pos c15] at H
              have c15b0 := eq_true c15
              have c15b1 : decide ((ji13) ≤ (a0.size : Int)) = true := decide_eq_true c15
              clear c15
              have HC16 := Aside0.mk H
              clear H
              go_enter Tryd.func18, Tryd.ntmps18
              try go_wp2_with (first | ((with_reducible refine gate_dst (N := 2) rfl ?_); refine box_event ?hg (N := 2) ?hd (cs := #[.string (⟨#[]⟩ : ByteArray), .int .i64 0, .int .i64 0, .string (⟨#[]⟩ : ByteArray)]) (t := 29) ?hr ?_; (case hd => rfl); (case hg => rfl); (case hr => first | (go_simp; done) | (go_simp; rfl)); intro gb318 hg w17 hbox hb; have n0_ := Aside0.mk (below_step (by repeat (first | (with_reducible first | exact HB.out | apply below_alloc | apply pw_below_drewN | apply below_drew1) | exact HB.out)) hb); have n1_ := Aside0.mk (hbox); have n2_ := Aside0.mk ((by rw [hg]; exact (below_size (by repeat (first | (with_reducible first | exact HB.out | apply below_alloc | apply pw_below_drewN | apply below_drew1) | exact HB.out))) : w.heap.size ≤ gb318)); have n3_ := Aside0.mk ((by rw [hg]; exact (below_size (by repeat (first | (with_reducible first | exact HB.out | apply below_alloc | apply pw_below_drewN | apply below_drew1) | exact HB.out))) : w.heap.size ≤ gb318)); clear HB; have HB := n0_; have BK318 := n1_; have GW318 := n2_; have GE318 := n3_; clear n0_ n1_ n2_ n3_; clear hb hbox hg) | ((with_reducible refine gate_callee (f := 38) rfl ?_); refine goesL_ (some 7) rfl rfl Tryd.func38 (by kernel_rfl) rfl #[.string a0, .int .u8 32] rfl (by (try simp only [List.map_toArray, List.map_cons, List.map_nil]); first | done | rfl | (simp only [List.length_drop, List.length_take]; rfl)) ?_; (with_reducible refine (spec_l1Split.calls k a0 32 t319 _ A2.out).mono ?_); rintro e w18 ⟨v320, rfl, ho0, hb⟩; refine ⟨_, rfl, ?_⟩; have n0_ := Aside0.mk (Kd.R_lower ho0 (below_size (by repeat (first | (with_reducible first | exact HB.out | apply below_alloc | apply pw_below_drewN | apply below_drew1 | refine below_set ?_ GE318.out) | exact HB.out)))); have n1_ := Aside0.mk (blk_below (g := gb318) (o := .cells #[.string (⟨#[]⟩ : ByteArray), .int .i64 0, .int .i64 0, .string (⟨#[]⟩ : ByteArray)] 29 (0, 0)) (by (with_reducible repeat (first | refine blk_drewN ?_ _ | refine blk_drew ?_ | refine blk_alloc ?_ _)); exact BK318.out) hb); have n2_ := Aside0.mk (below_step (by repeat (first | (with_reducible first | exact HB.out | apply below_alloc | apply pw_below_drewN | apply below_drew1 | refine below_set ?_ GE318.out) | exact HB.out)) hb); clear BK318; clear HB; have HO321 := n0_; have BK318 := n1_; have HB := n2_; clear n0_ n1_ n2_; (try clear hb); (try clear hb2); (try clear hk); (try clear hi); (try clear ho0); obtain ⟨Ao19, co19, eo19⟩ := Kd.R_slice HO321.out; subst eo19))
              have n0_ := Aside0.mk (Kd.R_drew HO321.out)
              have n1_ := Aside0.mk (blk_drew BK318.out)
              have n2_ := Aside0.mk (below_drew1 HB.out)
              clear HO321
              clear BK318
              clear HB
              have HO321 := n0_
              have BK318 := n1_
              have HB := n2_
              clear n0_ n1_ n2_
              have p322 : 0 ≤ (0 : Int) := (by omega)
              have q322 : 0 < (t319.length : Int) := of_decide_eq_true (by first | (with_reducible assumption) | assumption)
              obtain ⟨ad322, e322, hx322_0⟩ := Kd.at_string (Kd.R_reads' HO321.out).2.2 0 p322 q322
              cases e322
              have qi322 : (0 < t319.length) = True := eq_true (by omega)
              (try rw [show ((0 : Int)).toNat = 0 from rfl] at hx322_0)
              (try rw [Addr.add_zero'] at hx322_0)
              replace p322 := eq_true p322
              replace q322 := eq_true q322
              have p323 : 0 ≤ (1 : Int) := (by omega)
              have q323 : 1 < (t319.length : Int) := of_decide_eq_true (by first | (with_reducible assumption) | assumption)
              obtain ⟨ad323, e323, hx323_0⟩ := Kd.at_string (Kd.R_reads' HO321.out).2.2 1 p323 q323
              obtain rfl : ad322 = ad323 := (by injection e323)
              (try simp only [show (1 : Int).toNat = 1 from rfl, Nat.reduceMul, Nat.reduceEqDiff, Go.Addr.add, ↓reduceIte] at hx323_0)
              have qi323 : (1 < t319.length) = True := eq_true (by omega)
              (try rw [show ((1 : Int)).toNat = 1 from rfl] at hx323_0)
              replace p323 := eq_true p323
              replace q323 := eq_true q323
              have p325 : 0 ≤ (2 : Int) := (by omega)
              have q325 : 2 < (t319.length : Int) := of_decide_eq_true (by first | (with_reducible assumption) | assumption)
              obtain ⟨ad325, e325, hx325_0⟩ := Kd.at_string (Kd.R_reads' HO321.out).2.2 2 p325 q325
              obtain rfl : ad322 = ad325 := (by injection e325)
              (try simp only [show (2 : Int).toNat = 2 from rfl, Nat.reduceMul, Nat.reduceEqDiff, Go.Addr.add, ↓reduceIte] at hx325_0)
              have qi325 : (2 < t319.length) = True := eq_true (by omega)
              (try rw [show ((2 : Int)).toNat = 2 from rfl] at hx325_0)
              replace p325 := eq_true p325
              replace q325 := eq_true q325
              have p327 : 0 ≤ (0 : Int) := (by omega)
              have q327 : 0 < (t319.length : Int) := of_decide_eq_true (by first | (with_reducible assumption) | assumption)
              obtain ⟨ad327, e327, hx327_0⟩ := Kd.at_string (Kd.R_reads' HO321.out).2.2 0 p327 q327
              obtain rfl : ad322 = ad327 := (by injection e327)
              have qi327 : (0 < t319.length) = True := eq_true (by omega)
              (try rw [show ((0 : Int)).toNat = 0 from rfl] at hx327_0)
              (try rw [Addr.add_zero'] at hx327_0)
              replace p327 := eq_true p327
              replace q327 := eq_true q327
              have p328 : 0 ≤ (1 : Int) := (by omega)
              have q328 : 1 < (t319.length : Int) := of_decide_eq_true (by first | (with_reducible assumption) | assumption)
              obtain ⟨ad328, e328, hx328_0⟩ := Kd.at_string (Kd.R_reads' HO321.out).2.2 1 p328 q328
              obtain rfl : ad322 = ad328 := (by injection e328)
              (try simp only [show (1 : Int).toNat = 1 from rfl, Nat.reduceMul, Nat.reduceEqDiff, Go.Addr.add, ↓reduceIte] at hx328_0)
              have qi328 : (1 < t319.length) = True := eq_true (by omega)
              (try rw [show ((1 : Int)).toNat = 1 from rfl] at hx328_0)
              replace p328 := eq_true p328
              replace q328 := eq_true q328
              have p329 : 0 ≤ (2 : Int) := (by omega)
              have q329 : 2 < (t319.length : Int) := of_decide_eq_true (by first | (with_reducible assumption) | assumption)
              obtain ⟨ad329, e329, hx329_0⟩ := Kd.at_string (Kd.R_reads' HO321.out).2.2 2 p329 q329
              obtain rfl : ad322 = ad329 := (by injection e329)
              (try simp only [show (2 : Int).toNat = 2 from rfl, Nat.reduceMul, Nat.reduceEqDiff, Go.Addr.add, ↓reduceIte] at hx329_0)
              have qi329 : (2 < t319.length) = True := eq_true (by omega)
              (try rw [show ((2 : Int)).toNat = 2 from rfl] at hx329_0)
              replace p329 := eq_true p329
              replace q329 := eq_true q329
              refine start_ (n := 31) (S := fun w' => w'.cell? ad322 = some (.string (rdOf ByteArray.empty t319 0)) ∧ w'.cell? ⟨ad322.block, ad322.off + 1, none⟩ = some (.string (rdOf ByteArray.empty t319 1)) ∧ w'.cell? ⟨ad322.block, ad322.off + 2, none⟩ = some (.string (rdOf ByteArray.empty t319 2)) ∧ w'.cell? ad322 = some (.string (rdOf ByteArray.empty t319 0)) ∧ w'.cell? ⟨ad322.block, ad322.off + 1, none⟩ = some (.string (rdOf ByteArray.empty t319 1)) ∧ w'.cell? ⟨ad322.block, ad322.off + 2, none⟩ = some (.string (rdOf ByteArray.empty t319 2))) (ds := []) #[false, false, false, false, false, false, false, false, false, false, false, false, false, false, false, false, false, false, false, false, false, false, false, false, false, false, false, false, false, false, false] (by kernel_rfl) rfl rfl ⟨hx322_0, hx323_0, hx325_0, hx327_0, hx328_0, hx329_0⟩ (fun hHeld => ?_); refine with_tabW spec_ReadRecord.tab4 spec_ReadRecord.bits4 (fun HT_ HW_ => ?_)
              generalize w18.drew = w20 at HO321 BK318 HB hx322_0 hx323_0 hx325_0 hx327_0 hx328_0 hx329_0 hHeld ⊢
              refine pure_ (i := 0) (N := some 12) (v := ?_) (a' := ?_) #[true, false, false, false, false, false, false, false, false, false, false, false, false, false, false, false, false, false, false, false, false, false, false, false, false, false, false, false, false, false, false] rfl rfl (any_of HT_.out (by kernel_rfl)) (fun _ _ _ h => h) (Or.inl ⟨by rfl, ?_⟩) ?_ ?_
              rotate_left
              · intro w'
                go_simp
                with_reducible rfl
              rotate_left
              · simp only [Act.put, List.setIfInBounds_toArray, List.set_cons_zero, List.set_cons_succ, i64_w, i32_w]
                rfl
              refine pure_ (i := 1) (N := some 13) (v := ?_) (a' := ?_) #[true, true, false, false, false, false, false, false, false, false, false, false, false, false, false, false, false, false, false, false, false, false, false, false, false, false, false, false, false, false, false] rfl rfl (any_of HT_.out (by kernel_rfl)) (fun _ _ _ h => h) (Or.inl ⟨by rfl, ?_⟩) ?_ ?_
              rotate_left
              · intro w'
                go_simp
                with_reducible rfl
              rotate_left
              · simp only [Act.put, List.setIfInBounds_toArray, List.set_cons_zero, List.set_cons_succ, i64_w, i32_w]
                rfl
              refine pure_ (i := 3) (N := some 15) (v := ?_) (a' := ?_) #[true, true, false, true, false, false, false, false, false, false, false, false, false, false, false, false, false, false, false, false, false, false, false, false, false, false, false, false, false, false, false] rfl rfl (any_of HT_.out (by kernel_rfl)) (fun _ _ _ h => h) (Or.inl ⟨by rfl, ?_⟩) ?_ ?_
              rotate_left
              · intro w'
                go_simp
                with_reducible rfl
              rotate_left
              · simp only [Act.put, List.setIfInBounds_toArray, List.set_cons_zero, List.set_cons_succ, i64_w, i32_w]
                rfl
              refine pure_ (i := 4) (N := some 16) (v := ?_) (a' := ?_) #[true, true, false, true, true, false, false, false, false, false, false, false, false, false, false, false, false, false, false, false, false, false, false, false, false, false, false, false, false, false, false] rfl rfl (any_of HT_.out (by kernel_rfl)) (fun _ _ _ h => h) (Or.inl ⟨by rfl, ?_⟩) ?_ ?_
              rotate_left
              · intro w'
                go_simp
                with_reducible rfl
              rotate_left
              · simp only [Act.put, List.setIfInBounds_toArray, List.set_cons_zero, List.set_cons_succ, i64_w, i32_w]
                rfl
              refine pure_ (i := 7) (N := some 19) (v := ?_) (a' := ?_) #[true, true, false, true, true, false, false, true, false, false, false, false, false, false, false, false, false, false, false, false, false, false, false, false, false, false, false, false, false, false, false] rfl rfl (any_of HT_.out (by kernel_rfl)) (fun _ _ _ h => h) (Or.inl ⟨by rfl, ?_⟩) ?_ ?_
              rotate_left
              · intro w'
                go_simp
                with_reducible rfl
              rotate_left
              · simp only [Act.put, List.setIfInBounds_toArray, List.set_cons_zero, List.set_cons_succ, i64_w, i32_w]
                rfl
              refine pure_ (i := 8) (N := some 20) (v := ?_) (a' := ?_) #[true, true, false, true, true, false, false, true, true, false, false, false, false, false, false, false, false, false, false, false, false, false, false, false, false, false, false, false, false, false, false] rfl rfl (any_of HT_.out (by kernel_rfl)) (fun _ _ _ h => h) (Or.inl ⟨by rfl, ?_⟩) ?_ ?_
              rotate_left
              · intro w'
                go_simp
                with_reducible rfl
              rotate_left
              · simp only [Act.put, List.setIfInBounds_toArray, List.set_cons_zero, List.set_cons_succ, i64_w, i32_w]
                rfl
              refine pure_ (i := 11) (N := some 23) (v := ?_) (a' := ?_) #[true, true, false, true, true, false, false, true, true, false, false, true, false, false, false, false, false, false, false, false, false, false, false, false, false, false, false, false, false, false, false] rfl rfl (any_of HT_.out (by kernel_rfl)) (fun _ _ _ h => h) (Or.inl ⟨by rfl, ?_⟩) ?_ ?_
              rotate_left
              · intro w'
                go_simp
                with_reducible rfl
              rotate_left
              · simp only [Act.put, List.setIfInBounds_toArray, List.set_cons_zero, List.set_cons_succ, i64_w, i32_w]
                rfl
              refine pure_ (i := 12) (N := some 24) (v := ?_) (a' := ?_) #[true, true, false, true, true, false, false, true, true, false, false, true, true, false, false, false, false, false, false, false, false, false, false, false, false, false, false, false, false, false, false] rfl rfl (any_of HT_.out (by kernel_rfl)) (fun _ _ _ h => h) (Or.inl ⟨by rfl, ?_⟩) ?_ ?_
              rotate_left
              · intro w'
                go_simp
                with_reducible rfl
              rotate_left
              · simp only [Act.put, List.setIfInBounds_toArray, List.set_cons_zero, List.set_cons_succ, i64_w, i32_w]
                rfl
              refine pure_ (i := 13) (N := some 25) (v := ?_) (a' := ?_) #[true, true, false, true, true, false, false, true, true, false, false, true, true, true, false, false, false, false, false, false, false, false, false, false, false, false, false, false, false, false, false] rfl rfl (any_of HT_.out (by kernel_rfl)) (fun _ _ _ h => h) (Or.inl ⟨by rfl, ?_⟩) ?_ ?_
              rotate_left
              · intro w'
                go_simp
                with_reducible rfl
              rotate_left
              · simp only [Act.put, List.setIfInBounds_toArray, List.set_cons_zero, List.set_cons_succ, i64_w, i32_w]
                rfl
              refine pure_ (i := 16) (N := some 28) (v := ?_) (a' := ?_) #[true, true, false, true, true, false, false, true, true, false, false, true, true, true, false, false, true, false, false, false, false, false, false, false, false, false, false, false, false, false, false] rfl rfl (any_of HT_.out (by kernel_rfl)) (fun _ _ _ h => h) (Or.inl ⟨by rfl, ?_⟩) ?_ ?_
              rotate_left
              · intro w'
                go_simp
                with_reducible rfl
              rotate_left
              · simp only [Act.put, List.setIfInBounds_toArray, List.set_cons_zero, List.set_cons_succ, i64_w, i32_w]
                rfl
              refine pure_ (i := 17) (N := some 29) (v := ?_) (a' := ?_) #[true, true, false, true, true, false, false, true, true, false, false, true, true, true, false, false, true, true, false, false, false, false, false, false, false, false, false, false, false, false, false] rfl rfl (any_of HT_.out (by kernel_rfl)) (fun _ _ _ h => h) (Or.inl ⟨by rfl, ?_⟩) ?_ ?_
              rotate_left
              · intro w'
                go_simp
                with_reducible rfl
              rotate_left
              · simp only [Act.put, List.setIfInBounds_toArray, List.set_cons_zero, List.set_cons_succ, i64_w, i32_w]
                rfl
              refine pure_ (i := 21) (N := some 33) (v := ?_) (a' := ?_) #[true, true, false, true, true, false, false, true, true, false, false, true, true, true, false, false, true, true, false, false, false, true, false, false, false, false, false, false, false, false, false] rfl rfl (any_of HT_.out (by kernel_rfl)) (fun _ _ _ h => h) (Or.inl ⟨by rfl, ?_⟩) ?_ ?_
              rotate_left
              · intro w'
                go_simp
                with_reducible rfl
              rotate_left
              · simp only [Act.put, List.setIfInBounds_toArray, List.set_cons_zero, List.set_cons_succ, i64_w, i32_w]
                rfl
              refine pure_ (i := 22) (N := some 34) (v := ?_) (a' := ?_) #[true, true, false, true, true, false, false, true, true, false, false, true, true, true, false, false, true, true, false, false, false, true, true, false, false, false, false, false, false, false, false] rfl rfl (any_of HT_.out (by kernel_rfl)) (fun _ _ _ h => h) (Or.inl ⟨by rfl, ?_⟩) ?_ ?_
              rotate_left
              · intro w'
                go_simp
                with_reducible rfl
              rotate_left
              · simp only [Act.put, List.setIfInBounds_toArray, List.set_cons_zero, List.set_cons_succ, i64_w, i32_w]
                rfl
              refine take_ (i := 2) (N := some 14) (v := ?_) (a' := ?_) #[true, true, true, true, true, false, false, true, true, false, false, true, true, true, false, false, true, true, false, false, false, true, true, false, false, false, false, false, false, false, false] rfl rfl (take_ofW HT_.out HW_.out (by kernel_rfl)) (fun _ _ _ h => h) (Or.inl ⟨by rfl, ?_⟩) hHeld ?_ ?_
              rotate_left
              · rintro w' ⟨s0, s1, s2, s3, s4, s5⟩
                go_simp
                with_reducible rfl
              rotate_left
              · simp only [Act.put, List.setIfInBounds_toArray, List.set_cons_zero, List.set_cons_succ, i64_w, i32_w]
                rfl
              refine take_ (i := 5) (N := some 17) (v := ?_) (a' := ?_) #[true, true, true, true, true, true, false, true, true, false, false, true, true, true, false, false, true, true, false, false, false, true, true, false, false, false, false, false, false, false, false] rfl rfl (take_ofW HT_.out HW_.out (by kernel_rfl)) (fun _ _ _ h => h) (Or.inl ⟨by rfl, ?_⟩) hHeld ?_ ?_
              rotate_left
              · rintro w' ⟨s0, s1, s2, s3, s4, s5⟩
                go_simp
                with_reducible rfl
              rotate_left
              · simp only [Act.put, List.setIfInBounds_toArray, List.set_cons_zero, List.set_cons_succ, i64_w, i32_w]
                rfl
              refine take_ (i := 9) (N := some 21) (v := ?_) (a' := ?_) #[true, true, true, true, true, true, false, true, true, true, false, true, true, true, false, false, true, true, false, false, false, true, true, false, false, false, false, false, false, false, false] rfl rfl (take_ofW HT_.out HW_.out (by kernel_rfl)) (fun _ _ _ h => h) (Or.inl ⟨by rfl, ?_⟩) hHeld ?_ ?_
              rotate_left
              · rintro w' ⟨s0, s1, s2, s3, s4, s5⟩
                go_simp
                with_reducible rfl
              rotate_left
              · simp only [Act.put, List.setIfInBounds_toArray, List.set_cons_zero, List.set_cons_succ, i64_w, i32_w]
                rfl
              refine take_ (i := 14) (N := some 26) (v := ?_) (a' := ?_) #[true, true, true, true, true, true, false, true, true, true, false, true, true, true, true, false, true, true, false, false, false, true, true, false, false, false, false, false, false, false, false] rfl rfl (take_ofW HT_.out HW_.out (by kernel_rfl)) (fun _ _ _ h => h) (Or.inl ⟨by rfl, ?_⟩) hHeld ?_ ?_
              rotate_left
              · rintro w' ⟨s0, s1, s2, s3, s4, s5⟩
                go_simp
                with_reducible rfl
              rotate_left
              · simp only [Act.put, List.setIfInBounds_toArray, List.set_cons_zero, List.set_cons_succ, i64_w, i32_w]
                rfl
              refine pure_ (i := 15) (N := some 27) (v := ?_) (a' := ?_) #[true, true, true, true, true, true, false, true, true, true, false, true, true, true, true, true, true, true, false, false, false, true, true, false, false, false, false, false, false, false, false] rfl rfl (any_of HT_.out (by kernel_rfl)) (fun _ _ _ h => h) (Or.inl ⟨by rfl, ?_⟩) ?_ ?_
              rotate_left
              · intro w'
                go_simp
                with_reducible rfl
              rotate_left
              · simp only [Act.put, List.setIfInBounds_toArray, List.set_cons_zero, List.set_cons_succ, i64_w, i32_w]
                rfl
              refine take_ (i := 18) (N := some 30) (v := ?_) (a' := ?_) #[true, true, true, true, true, true, false, true, true, true, false, true, true, true, true, true, true, true, true, false, false, true, true, false, false, false, false, false, false, false, false] rfl rfl (take_ofW HT_.out HW_.out (by kernel_rfl)) (fun _ _ _ h => h) (Or.inl ⟨by rfl, ?_⟩) hHeld ?_ ?_
              rotate_left
              · rintro w' ⟨s0, s1, s2, s3, s4, s5⟩
                go_simp
                with_reducible rfl
              rotate_left
              · simp only [Act.put, List.setIfInBounds_toArray, List.set_cons_zero, List.set_cons_succ, i64_w, i32_w]
                rfl
              refine pure_ (i := 19) (N := some 31) (v := ?_) (a' := ?_) #[true, true, true, true, true, true, false, true, true, true, false, true, true, true, true, true, true, true, true, true, false, true, true, false, false, false, false, false, false, false, false] rfl rfl (any_of HT_.out (by kernel_rfl)) (fun _ _ _ h => h) (Or.inl ⟨by rfl, ?_⟩) ?_ ?_
              rotate_left
              · intro w'
                go_simp
                with_reducible rfl
              rotate_left
              · simp only [Act.put, List.setIfInBounds_toArray, List.set_cons_zero, List.set_cons_succ, i64_w, i32_w]
                rfl
              refine pure_ (i := 20) (N := some 32) (v := ?_) (a' := ?_) #[true, true, true, true, true, true, false, true, true, true, false, true, true, true, true, true, true, true, true, true, true, true, true, false, false, false, false, false, false, false, false] rfl rfl (any_of HT_.out (by kernel_rfl)) (fun _ _ _ h => h) (Or.inl ⟨by rfl, ?_⟩) ?_ ?_
              rotate_left
              · intro w'
                go_simp
                with_reducible rfl
              rotate_left
              · simp only [Act.put, List.setIfInBounds_toArray, List.set_cons_zero, List.set_cons_succ, i64_w, i32_w]
                rfl
              refine take_ (i := 23) (N := some 35) (v := ?_) (a' := ?_) #[true, true, true, true, true, true, false, true, true, true, false, true, true, true, true, true, true, true, true, true, true, true, true, true, false, false, false, false, false, false, false] rfl rfl (take_ofW HT_.out HW_.out (by kernel_rfl)) (fun _ _ _ h => h) (Or.inl ⟨by rfl, ?_⟩) hHeld ?_ ?_
              rotate_left
              · rintro w' ⟨s0, s1, s2, s3, s4, s5⟩
                go_simp
                with_reducible rfl
              rotate_left
              · simp only [Act.put, List.setIfInBounds_toArray, List.set_cons_zero, List.set_cons_succ, i64_w, i32_w]
                rfl
              refine pure_ (i := 24) (N := some 36) (v := ?_) (a' := ?_) #[true, true, true, true, true, true, false, true, true, true, false, true, true, true, true, true, true, true, true, true, true, true, true, true, true, false, false, false, false, false, false] rfl rfl (any_of HT_.out (by kernel_rfl)) (fun _ _ _ h => h) (Or.inl ⟨by rfl, ?_⟩) ?_ ?_
              rotate_left
              · intro w'
                go_simp
                with_reducible rfl
              rotate_left
              · simp only [Act.put, List.setIfInBounds_toArray, List.set_cons_zero, List.set_cons_succ, i64_w, i32_w]
                rfl
              refine pure_ (i := 25) (N := some 37) (v := ?_) (a' := ?_) #[true, true, true, true, true, true, false, true, true, true, false, true, true, true, true, true, true, true, true, true, true, true, true, true, true, true, false, false, false, false, false] rfl rfl (any_of HT_.out (by kernel_rfl)) (fun _ _ _ h => h) (Or.inl ⟨by rfl, ?_⟩) ?_ ?_
              rotate_left
              · intro w'
                go_simp
                with_reducible rfl
              rotate_left
              · simp only [Act.put, List.setIfInBounds_toArray, List.set_cons_zero, List.set_cons_succ, i64_w, i32_w]
                rfl
              refine pure_ (i := 26) (N := some 38) (v := ?_) (a' := ?_) #[true, true, true, true, true, true, false, true, true, true, false, true, true, true, true, true, true, true, true, true, true, true, true, true, true, true, true, false, false, false, false] rfl rfl (any_of HT_.out (by kernel_rfl)) (fun _ _ _ h => h) (Or.inl ⟨by rfl, ?_⟩) ?_ ?_
              rotate_left
              · intro w'
                go_simp
                with_reducible rfl
              rotate_left
              · simp only [Act.put, List.setIfInBounds_toArray, List.set_cons_zero, List.set_cons_succ, i64_w, i32_w]
                rfl
              refine pure_ (i := 27) (N := some 39) (v := ?_) (a' := ?_) #[true, true, true, true, true, true, false, true, true, true, false, true, true, true, true, true, true, true, true, true, true, true, true, true, true, true, true, true, false, false, false] rfl rfl (any_of HT_.out (by kernel_rfl)) (fun _ _ _ h => h) (Or.inl ⟨by rfl, ?_⟩) ?_ ?_
              rotate_left
              · intro w'
                go_simp
                with_reducible rfl
              rotate_left
              · simp only [Act.put, List.setIfInBounds_toArray, List.set_cons_zero, List.set_cons_succ, i64_w, i32_w]
                rfl
              refine join_ (σ := Nat) 1 #[true, true, true, true, true, true, true, true, true, true, true, true, true, true, true, true, true, true, true, true, true, true, true, true, true, true, true, true, true, true, false] (fun s_ => [(18, .int .i64 t324), (22, .int .i64 t326), (5, .pointer (some ⟨s_, 0, none⟩)), (40, .agg #[.string (rdOf ByteArray.empty t319 0), .int .i64 t326, .int .i64 t324, .string (a0.extract ((ji13) : Int).toNat a0.size)])]) (fun s_ w' => (w'.cell? ad322 = some (.string (rdOf ByteArray.empty t319 0)) ∧ w'.cell? ⟨ad322.block, ad322.off + 1, none⟩ = some (.string (rdOf ByteArray.empty t319 1)) ∧ w'.cell? ⟨ad322.block, ad322.off + 2, none⟩ = some (.string (rdOf ByteArray.empty t319 2)) ∧ w'.cell? ad322 = some (.string (rdOf ByteArray.empty t319 0)) ∧ w'.cell? ⟨ad322.block, ad322.off + 1, none⟩ = some (.string (rdOf ByteArray.empty t319 1)) ∧ w'.cell? ⟨ad322.block, ad322.off + 2, none⟩ = some (.string (rdOf ByteArray.empty t319 2))) ∧ (Kd.R Kd.string 9 w' w.heap.size (fun _ => True) (.slice (some ad322) t319.length co19) t319) ∧ (w'.heap[gb318]? = some (.cells #[.string (⟨#[]⟩ : ByteArray), .int .i64 0, .int .i64 0, .string (⟨#[]⟩ : ByteArray)] 29 (0, 0))) ∧ (w'.heap[s_]? = some (.cells #[.string (⟨#[]⟩ : ByteArray), .int .i64 0, .int .i64 0, .string (⟨#[]⟩ : ByteArray)] 29 (0, 0))) ∧ (w.heap.size ≤ s_) ∧ (w.heap.size ≤ s_) ∧ (gb318 ≠ s_) ∧ (s_ ≠ gb318) ∧ (Below w.heap.size w w')) ?_ ?_
              rotate_left
              · intro hCont
                refine two_ (i := 6) (j := 29) (Ni := some 18) (Nj := some 5) #[true, true, true, true, true, true, true, true, true, true, false, true, true, true, true, true, true, true, true, true, true, true, true, true, true, true, true, true, false, false, false] #[true, true, true, true, true, true, false, true, true, true, false, true, true, true, true, true, true, true, true, true, true, true, true, true, true, true, true, true, false, true, false] rfl rfl rfl rfl (two_of HT_.out (by kernel_rfl)) (by decide) (by decide) (fun K hK => ?_) (fun K hK => ?_)
                · skip
                  refine goes_ Tryd.func39 (by kernel_rfl) rfl #[.string (rdOf ByteArray.empty t319 1)] (by rfl) rfl rfl (by (try simp only [List.map_toArray, List.map_cons, List.map_nil]); first | done | rfl | (simp only [List.length_drop, List.length_take]; rfl)) ?_
                  with_reducible refine (spec_l1Int.calls k (rdOf ByteArray.empty t319 1) t324 _ A10.out).mono ?_
                  rintro e w' ⟨rfl, ⟨nd, rfl⟩⟩
                  refine ⟨_, rfl, ?_⟩
                  refine hK.out _ _ ⟨hHeld.1, hHeld.2.1, hHeld.2.2.1, hHeld.2.2.2.1, hHeld.2.2.2.2.1, hHeld.2.2.2.2.2⟩ (fun hHeld => ?_)
                  clear hK K
                  refine norm_ (a' := ?_) ?_ ?_
                  rotate_left
                  · show Act.put _ (some 18) _ = _
                    simp only [Act.put, List.setIfInBounds_toArray, List.set_cons_zero, List.set_cons_succ, i64_w, i32_w]
                    rfl
                  refine two_ (i := 10) (j := 29) (Ni := some 22) (Nj := some 5) #[true, true, true, true, true, true, true, true, true, true, true, true, true, true, true, true, true, true, true, true, true, true, true, true, true, true, true, true, false, false, false] #[true, true, true, true, true, true, true, true, true, true, false, true, true, true, true, true, true, true, true, true, true, true, true, true, true, true, true, true, false, true, false] rfl rfl rfl rfl (two_of HT_.out (by kernel_rfl)) (by decide) (by decide) (fun K hK => ?_) (fun K hK => ?_)
                  · skip
                    refine goes_ Tryd.func39 (by kernel_rfl) rfl #[.string (rdOf ByteArray.empty t319 2)] (by rfl) rfl rfl (by (try simp only [List.map_toArray, List.map_cons, List.map_nil]); first | done | rfl | (simp only [List.length_drop, List.length_take]; rfl)) ?_
                    with_reducible refine (spec_l1Int.calls k (rdOf ByteArray.empty t319 2) t326 _ A12.out).mono ?_
                    rintro e w' ⟨rfl, ⟨nd, rfl⟩⟩
                    refine ⟨_, rfl, ?_⟩
                    refine hK.out _ _ ⟨hHeld.1, hHeld.2.1, hHeld.2.2.1, hHeld.2.2.2.1, hHeld.2.2.2.2.1, hHeld.2.2.2.2.2⟩ (fun hHeld => ?_)
                    clear hK K
                    refine norm_ (a' := ?_) ?_ ?_
                    rotate_left
                    · show Act.put _ (some 22) _ = _
                      simp only [Act.put, List.setIfInBounds_toArray, List.set_cons_zero, List.set_cons_succ, i64_w, i32_w]
                      rfl
                    refine pure_ (i := 28) (N := some 40) (v := ?_) (a' := ?_) #[true, true, true, true, true, true, true, true, true, true, true, true, true, true, true, true, true, true, true, true, true, true, true, true, true, true, true, true, true, false, false] rfl rfl (any_of HT_.out (by kernel_rfl)) (fun _ _ _ h => h) (Or.inl ⟨by rfl, ?_⟩) ?_ ?_
                    rotate_left
                    · intro w'
                      go_simp
                      with_reducible rfl
                    rotate_left
                    · simp only [Act.put, List.setIfInBounds_toArray, List.set_cons_zero, List.set_cons_succ, i64_w, i32_w]
                      rfl
                    refine one_ (i := 29) (N := some 5) #[true, true, true, true, true, true, true, true, true, true, true, true, true, true, true, true, true, true, true, true, true, true, true, true, true, true, true, true, true, true, false] rfl rfl (one_of HT_.out (by kernel_rfl)) (by decide) (fun K hK => ?_)
                    refine box_step ?hg (N := 5) ?hd (cs := #[.string (⟨#[]⟩ : ByteArray), .int .i64 0, .int .i64 0, .string (⟨#[]⟩ : ByteArray)]) (t := 29) ?hr ?_; (case hd => rfl); (case hg => rfl); (case hr => first | (go_simp; done) | (go_simp; rfl))
                    intro gb330 hg w21 hbox hb
                    have HS0_ := (hb.cell (World.block_lt_of_cell? _ _ (hHeld.1))).trans (hHeld.1)
                    have HS1_ := (hb.cell (World.block_lt_of_cell? _ _ (hHeld.2.1))).trans (hHeld.2.1)
                    have HS2_ := (hb.cell (World.block_lt_of_cell? _ _ (hHeld.2.2.1))).trans (hHeld.2.2.1)
                    have HS3_ := (hb.cell (World.block_lt_of_cell? _ _ (hHeld.2.2.2.1))).trans (hHeld.2.2.2.1)
                    have HS4_ := (hb.cell (World.block_lt_of_cell? _ _ (hHeld.2.2.2.2.1))).trans (hHeld.2.2.2.2.1)
                    have HS5_ := (hb.cell (World.block_lt_of_cell? _ _ (hHeld.2.2.2.2.2))).trans (hHeld.2.2.2.2.2)
                    have n0_ := Aside0.mk (Kd.R_below (by (with_reducible repeat (first | apply Kd.R_alloc | apply Kd.R_drewN | apply Kd.R_drew)); exact HO321.out) hb)
                    have n1_ := Aside0.mk (blk_below (g := gb318) (o := .cells #[.string (⟨#[]⟩ : ByteArray), .int .i64 0, .int .i64 0, .string (⟨#[]⟩ : ByteArray)] 29 (0, 0)) (by (with_reducible repeat (first | refine blk_drewN ?_ _ | refine blk_drew ?_ | refine blk_alloc ?_ _)); exact BK318.out) hb)
                    have n2_ := Aside0.mk (below_step (by repeat (first | (with_reducible first | exact HB.out | apply below_alloc | apply pw_below_drewN | apply below_drew1 | refine below_set ?_ GE318.out) | exact HB.out)) hb)
                    have n3_ := Aside0.mk (hbox)
                    have n4_ := Aside0.mk ((by rw [hg]; exact (below_size (by repeat (first | (with_reducible first | exact HB.out | apply below_alloc | apply pw_below_drewN | apply below_drew1 | refine below_set ?_ GE318.out) | exact HB.out))) : w.heap.size ≤ gb330))
                    have n5_ := Aside0.mk ((by rw [hg]; exact (below_size (by repeat (first | (with_reducible first | exact HB.out | apply below_alloc | apply pw_below_drewN | apply below_drew1 | refine below_set ?_ GE318.out) | exact HB.out))) : w.heap.size ≤ gb330))
                    have n6_ := Aside0.mk ((by rw [hg]; exact Nat.ne_of_lt (blk_lt (g := gb318) (o := .cells #[.string (⟨#[]⟩ : ByteArray), .int .i64 0, .int .i64 0, .string (⟨#[]⟩ : ByteArray)] 29 (0, 0)) (by (with_reducible repeat (first | refine blk_drewN ?_ _ | refine blk_drew ?_ | refine blk_alloc ?_ _)); exact BK318.out)) : gb318 ≠ gb330))
                    have n7_ := Aside0.mk ((by rw [hg]; exact Nat.ne_of_gt (blk_lt (g := gb318) (o := .cells #[.string (⟨#[]⟩ : ByteArray), .int .i64 0, .int .i64 0, .string (⟨#[]⟩ : ByteArray)] 29 (0, 0)) (by (with_reducible repeat (first | refine blk_drewN ?_ _ | refine blk_drew ?_ | refine blk_alloc ?_ _)); exact BK318.out)) : gb330 ≠ gb318))
                    clear HO321
                    clear BK318
                    clear HB
                    have HO321 := n0_
                    have BK318 := n1_
                    have HB := n2_
                    have BK330 := n3_
                    have GW330 := n4_
                    have GE330 := n5_
                    have NB318_330 := n6_
                    have NB330_318 := n7_
                    clear n0_ n1_ n2_ n3_ n4_ n5_ n6_ n7_
                    clear hb hbox hg
                    refine hK.out _ _ ⟨HS0_, HS1_, HS2_, HS3_, HS4_, HS5_⟩ (fun hHeld => ?_)
                    clear hK K
                    refine norm_ (a' := ?_) ?_ ?_
                    rotate_left
                    · show Act.put _ (some 5) _ = _
                      simp only [Act.put, List.setIfInBounds_toArray, List.set_cons_zero, List.set_cons_succ, i64_w, i32_w]
                      rfl
                    exact norm_ (by simp only [putAll, Act.put, List.setIfInBounds_toArray, List.set_cons_zero, List.set_cons_succ]) (hCont (gb330) _ ⟨hHeld, (by (with_reducible repeat (first | apply Kd.R_alloc | apply Kd.R_drewN | apply Kd.R_drew)); exact HO321.out), (by (with_reducible repeat (first | refine blk_drewN ?_ _ | refine blk_drew ?_ | refine blk_alloc ?_ _)); exact BK318.out), (by (with_reducible repeat (first | refine blk_drewN ?_ _ | refine blk_drew ?_ | refine blk_alloc ?_ _)); exact BK330.out), GW330.out, GE330.out, NB318_330.out, NB330_318.out, (by repeat (first | (with_reducible first | exact HB.out | apply below_alloc | apply pw_below_drewN | apply below_drew1 | refine below_set ?_ GE318.out | refine below_set ?_ GE330.out) | exact HB.out))⟩)
                  · skip
                    refine box_step ?hg (N := 5) ?hd (cs := #[.string (⟨#[]⟩ : ByteArray), .int .i64 0, .int .i64 0, .string (⟨#[]⟩ : ByteArray)]) (t := 29) ?hr ?_; (case hd => rfl); (case hg => rfl); (case hr => first | (go_simp; done) | (go_simp; rfl))
                    intro gb330 hg w21 hbox hb
                    have HS0_ := (hb.cell (World.block_lt_of_cell? _ _ (hHeld.1))).trans (hHeld.1)
                    have HS1_ := (hb.cell (World.block_lt_of_cell? _ _ (hHeld.2.1))).trans (hHeld.2.1)
                    have HS2_ := (hb.cell (World.block_lt_of_cell? _ _ (hHeld.2.2.1))).trans (hHeld.2.2.1)
                    have HS3_ := (hb.cell (World.block_lt_of_cell? _ _ (hHeld.2.2.2.1))).trans (hHeld.2.2.2.1)
                    have HS4_ := (hb.cell (World.block_lt_of_cell? _ _ (hHeld.2.2.2.2.1))).trans (hHeld.2.2.2.2.1)
                    have HS5_ := (hb.cell (World.block_lt_of_cell? _ _ (hHeld.2.2.2.2.2))).trans (hHeld.2.2.2.2.2)
                    have n0_ := Aside0.mk (Kd.R_below (by (with_reducible repeat (first | apply Kd.R_alloc | apply Kd.R_drewN | apply Kd.R_drew)); exact HO321.out) hb)
                    have n1_ := Aside0.mk (blk_below (g := gb318) (o := .cells #[.string (⟨#[]⟩ : ByteArray), .int .i64 0, .int .i64 0, .string (⟨#[]⟩ : ByteArray)] 29 (0, 0)) (by (with_reducible repeat (first | refine blk_drewN ?_ _ | refine blk_drew ?_ | refine blk_alloc ?_ _)); exact BK318.out) hb)
                    have n2_ := Aside0.mk (below_step (by repeat (first | (with_reducible first | exact HB.out | apply below_alloc | apply pw_below_drewN | apply below_drew1 | refine below_set ?_ GE318.out) | exact HB.out)) hb)
                    have n3_ := Aside0.mk (hbox)
                    have n4_ := Aside0.mk ((by rw [hg]; exact (below_size (by repeat (first | (with_reducible first | exact HB.out | apply below_alloc | apply pw_below_drewN | apply below_drew1 | refine below_set ?_ GE318.out) | exact HB.out))) : w.heap.size ≤ gb330))
                    have n5_ := Aside0.mk ((by rw [hg]; exact (below_size (by repeat (first | (with_reducible first | exact HB.out | apply below_alloc | apply pw_below_drewN | apply below_drew1 | refine below_set ?_ GE318.out) | exact HB.out))) : w.heap.size ≤ gb330))
                    have n6_ := Aside0.mk ((by rw [hg]; exact Nat.ne_of_lt (blk_lt (g := gb318) (o := .cells #[.string (⟨#[]⟩ : ByteArray), .int .i64 0, .int .i64 0, .string (⟨#[]⟩ : ByteArray)] 29 (0, 0)) (by (with_reducible repeat (first | refine blk_drewN ?_ _ | refine blk_drew ?_ | refine blk_alloc ?_ _)); exact BK318.out)) : gb318 ≠ gb330))
                    have n7_ := Aside0.mk ((by rw [hg]; exact Nat.ne_of_gt (blk_lt (g := gb318) (o := .cells #[.string (⟨#[]⟩ : ByteArray), .int .i64 0, .int .i64 0, .string (⟨#[]⟩ : ByteArray)] 29 (0, 0)) (by (with_reducible repeat (first | refine blk_drewN ?_ _ | refine blk_drew ?_ | refine blk_alloc ?_ _)); exact BK318.out)) : gb330 ≠ gb318))
                    clear HO321
                    clear BK318
                    clear HB
                    have HO321 := n0_
                    have BK318 := n1_
                    have HB := n2_
                    have BK330 := n3_
                    have GW330 := n4_
                    have GE330 := n5_
                    have NB318_330 := n6_
                    have NB330_318 := n7_
                    clear n0_ n1_ n2_ n3_ n4_ n5_ n6_ n7_
                    clear hb hbox hg
                    refine hK.out _ _ ⟨HS0_, HS1_, HS2_, HS3_, HS4_, HS5_⟩ (fun hHeld => ?_)
                    clear hK K
                    refine norm_ (a' := ?_) ?_ ?_
                    rotate_left
                    · show Act.put _ (some 5) _ = _
                      simp only [Act.put, List.setIfInBounds_toArray, List.set_cons_zero, List.set_cons_succ, i64_w, i32_w]
                      rfl
                    refine one_ (i := 10) (N := some 22) #[true, true, true, true, true, true, true, true, true, true, true, true, true, true, true, true, true, true, true, true, true, true, true, true, true, true, true, true, false, true, false] rfl rfl (one_of HT_.out (by kernel_rfl)) (by decide) (fun K hK => ?_)
                    refine goes_ Tryd.func39 (by kernel_rfl) rfl #[.string (rdOf ByteArray.empty t319 2)] (by rfl) rfl rfl (by (try simp only [List.map_toArray, List.map_cons, List.map_nil]); first | done | rfl | (simp only [List.length_drop, List.length_take]; rfl)) ?_
                    with_reducible refine (spec_l1Int.calls k (rdOf ByteArray.empty t319 2) t326 _ A12.out).mono ?_
                    rintro e w' ⟨rfl, ⟨nd, rfl⟩⟩
                    refine ⟨_, rfl, ?_⟩
                    refine hK.out _ _ ⟨hHeld.1, hHeld.2.1, hHeld.2.2.1, hHeld.2.2.2.1, hHeld.2.2.2.2.1, hHeld.2.2.2.2.2⟩ (fun hHeld => ?_)
                    clear hK K
                    refine norm_ (a' := ?_) ?_ ?_
                    rotate_left
                    · show Act.put _ (some 22) _ = _
                      simp only [Act.put, List.setIfInBounds_toArray, List.set_cons_zero, List.set_cons_succ, i64_w, i32_w]
                      rfl
                    refine pure_ (i := 28) (N := some 40) (v := ?_) (a' := ?_) #[true, true, true, true, true, true, true, true, true, true, true, true, true, true, true, true, true, true, true, true, true, true, true, true, true, true, true, true, true, true, false] rfl rfl (any_of HT_.out (by kernel_rfl)) (fun _ _ _ h => h) (Or.inl ⟨by rfl, ?_⟩) ?_ ?_
                    rotate_left
                    · intro w'
                      go_simp
                      with_reducible rfl
                    rotate_left
                    · simp only [Act.put, List.setIfInBounds_toArray, List.set_cons_zero, List.set_cons_succ, i64_w, i32_w]
                      rfl
                    exact norm_ (by simp only [putAll, Act.put, List.setIfInBounds_toArray, List.set_cons_zero, List.set_cons_succ]) (hCont (gb330) _ ⟨hHeld, (by (with_reducible repeat (first | apply Kd.R_alloc | apply Kd.R_drewN | apply Kd.R_drew)); exact HO321.out), (by (with_reducible repeat (first | refine blk_drewN ?_ _ | refine blk_drew ?_ | refine blk_alloc ?_ _)); exact BK318.out), (by (with_reducible repeat (first | refine blk_drewN ?_ _ | refine blk_drew ?_ | refine blk_alloc ?_ _)); exact BK330.out), GW330.out, GE330.out, NB318_330.out, NB330_318.out, (by repeat (first | (with_reducible first | exact HB.out | apply below_alloc | apply pw_below_drewN | apply below_drew1 | refine below_set ?_ GE318.out | refine below_set ?_ GE330.out) | exact HB.out))⟩)
                · skip
                  refine box_step ?hg (N := 5) ?hd (cs := #[.string (⟨#[]⟩ : ByteArray), .int .i64 0, .int .i64 0, .string (⟨#[]⟩ : ByteArray)]) (t := 29) ?hr ?_; (case hd => rfl); (case hg => rfl); (case hr => first | (go_simp; done) | (go_simp; rfl))
                  intro gb330 hg w21 hbox hb
                  have HS0_ := (hb.cell (World.block_lt_of_cell? _ _ (hHeld.1))).trans (hHeld.1)
                  have HS1_ := (hb.cell (World.block_lt_of_cell? _ _ (hHeld.2.1))).trans (hHeld.2.1)
                  have HS2_ := (hb.cell (World.block_lt_of_cell? _ _ (hHeld.2.2.1))).trans (hHeld.2.2.1)
                  have HS3_ := (hb.cell (World.block_lt_of_cell? _ _ (hHeld.2.2.2.1))).trans (hHeld.2.2.2.1)
                  have HS4_ := (hb.cell (World.block_lt_of_cell? _ _ (hHeld.2.2.2.2.1))).trans (hHeld.2.2.2.2.1)
                  have HS5_ := (hb.cell (World.block_lt_of_cell? _ _ (hHeld.2.2.2.2.2))).trans (hHeld.2.2.2.2.2)
                  have n0_ := Aside0.mk (Kd.R_below (by (with_reducible repeat (first | apply Kd.R_alloc | apply Kd.R_drewN | apply Kd.R_drew)); exact HO321.out) hb)
                  have n1_ := Aside0.mk (blk_below (g := gb318) (o := .cells #[.string (⟨#[]⟩ : ByteArray), .int .i64 0, .int .i64 0, .string (⟨#[]⟩ : ByteArray)] 29 (0, 0)) (by (with_reducible repeat (first | refine blk_drewN ?_ _ | refine blk_drew ?_ | refine blk_alloc ?_ _)); exact BK318.out) hb)
                  have n2_ := Aside0.mk (below_step (by repeat (first | (with_reducible first | exact HB.out | apply below_alloc | apply pw_below_drewN | apply below_drew1 | refine below_set ?_ GE318.out) | exact HB.out)) hb)
                  have n3_ := Aside0.mk (hbox)
                  have n4_ := Aside0.mk ((by rw [hg]; exact (below_size (by repeat (first | (with_reducible first | exact HB.out | apply below_alloc | apply pw_below_drewN | apply below_drew1 | refine below_set ?_ GE318.out) | exact HB.out))) : w.heap.size ≤ gb330))
                  have n5_ := Aside0.mk ((by rw [hg]; exact (below_size (by repeat (first | (with_reducible first | exact HB.out | apply below_alloc | apply pw_below_drewN | apply below_drew1 | refine below_set ?_ GE318.out) | exact HB.out))) : w.heap.size ≤ gb330))
                  have n6_ := Aside0.mk ((by rw [hg]; exact Nat.ne_of_lt (blk_lt (g := gb318) (o := .cells #[.string (⟨#[]⟩ : ByteArray), .int .i64 0, .int .i64 0, .string (⟨#[]⟩ : ByteArray)] 29 (0, 0)) (by (with_reducible repeat (first | refine blk_drewN ?_ _ | refine blk_drew ?_ | refine blk_alloc ?_ _)); exact BK318.out)) : gb318 ≠ gb330))
                  have n7_ := Aside0.mk ((by rw [hg]; exact Nat.ne_of_gt (blk_lt (g := gb318) (o := .cells #[.string (⟨#[]⟩ : ByteArray), .int .i64 0, .int .i64 0, .string (⟨#[]⟩ : ByteArray)] 29 (0, 0)) (by (with_reducible repeat (first | refine blk_drewN ?_ _ | refine blk_drew ?_ | refine blk_alloc ?_ _)); exact BK318.out)) : gb330 ≠ gb318))
                  clear HO321
                  clear BK318
                  clear HB
                  have HO321 := n0_
                  have BK318 := n1_
                  have HB := n2_
                  have BK330 := n3_
                  have GW330 := n4_
                  have GE330 := n5_
                  have NB318_330 := n6_
                  have NB330_318 := n7_
                  clear n0_ n1_ n2_ n3_ n4_ n5_ n6_ n7_
                  clear hb hbox hg
                  refine hK.out _ _ ⟨HS0_, HS1_, HS2_, HS3_, HS4_, HS5_⟩ (fun hHeld => ?_)
                  clear hK K
                  refine norm_ (a' := ?_) ?_ ?_
                  rotate_left
                  · show Act.put _ (some 5) _ = _
                    simp only [Act.put, List.setIfInBounds_toArray, List.set_cons_zero, List.set_cons_succ, i64_w, i32_w]
                    rfl
                  refine one_ (i := 6) (N := some 18) #[true, true, true, true, true, true, true, true, true, true, false, true, true, true, true, true, true, true, true, true, true, true, true, true, true, true, true, true, false, true, false] rfl rfl (one_of HT_.out (by kernel_rfl)) (by decide) (fun K hK => ?_)
                  refine goes_ Tryd.func39 (by kernel_rfl) rfl #[.string (rdOf ByteArray.empty t319 1)] (by rfl) rfl rfl (by (try simp only [List.map_toArray, List.map_cons, List.map_nil]); first | done | rfl | (simp only [List.length_drop, List.length_take]; rfl)) ?_
                  with_reducible refine (spec_l1Int.calls k (rdOf ByteArray.empty t319 1) t324 _ A10.out).mono ?_
                  rintro e w' ⟨rfl, ⟨nd, rfl⟩⟩
                  refine ⟨_, rfl, ?_⟩
                  refine hK.out _ _ ⟨hHeld.1, hHeld.2.1, hHeld.2.2.1, hHeld.2.2.2.1, hHeld.2.2.2.2.1, hHeld.2.2.2.2.2⟩ (fun hHeld => ?_)
                  clear hK K
                  refine norm_ (a' := ?_) ?_ ?_
                  rotate_left
                  · show Act.put _ (some 18) _ = _
                    simp only [Act.put, List.setIfInBounds_toArray, List.set_cons_zero, List.set_cons_succ, i64_w, i32_w]
                    rfl
                  refine one_ (i := 10) (N := some 22) #[true, true, true, true, true, true, true, true, true, true, true, true, true, true, true, true, true, true, true, true, true, true, true, true, true, true, true, true, false, true, false] rfl rfl (one_of HT_.out (by kernel_rfl)) (by decide) (fun K hK => ?_)
                  refine goes_ Tryd.func39 (by kernel_rfl) rfl #[.string (rdOf ByteArray.empty t319 2)] (by rfl) rfl rfl (by (try simp only [List.map_toArray, List.map_cons, List.map_nil]); first | done | rfl | (simp only [List.length_drop, List.length_take]; rfl)) ?_
                  with_reducible refine (spec_l1Int.calls k (rdOf ByteArray.empty t319 2) t326 _ A12.out).mono ?_
                  rintro e w' ⟨rfl, ⟨nd, rfl⟩⟩
                  refine ⟨_, rfl, ?_⟩
                  refine hK.out _ _ ⟨hHeld.1, hHeld.2.1, hHeld.2.2.1, hHeld.2.2.2.1, hHeld.2.2.2.2.1, hHeld.2.2.2.2.2⟩ (fun hHeld => ?_)
                  clear hK K
                  refine norm_ (a' := ?_) ?_ ?_
                  rotate_left
                  · show Act.put _ (some 22) _ = _
                    simp only [Act.put, List.setIfInBounds_toArray, List.set_cons_zero, List.set_cons_succ, i64_w, i32_w]
                    rfl
                  refine pure_ (i := 28) (N := some 40) (v := ?_) (a' := ?_) #[true, true, true, true, true, true, true, true, true, true, true, true, true, true, true, true, true, true, true, true, true, true, true, true, true, true, true, true, true, true, false] rfl rfl (any_of HT_.out (by kernel_rfl)) (fun _ _ _ h => h) (Or.inl ⟨by rfl, ?_⟩) ?_ ?_
                  rotate_left
                  · intro w'
                    go_simp
                    with_reducible rfl
                  rotate_left
                  · simp only [Act.put, List.setIfInBounds_toArray, List.set_cons_zero, List.set_cons_succ, i64_w, i32_w]
                    rfl
                  exact norm_ (by simp only [putAll, Act.put, List.setIfInBounds_toArray, List.set_cons_zero, List.set_cons_succ]) (hCont (gb330) _ ⟨hHeld, (by (with_reducible repeat (first | apply Kd.R_alloc | apply Kd.R_drewN | apply Kd.R_drew)); exact HO321.out), (by (with_reducible repeat (first | refine blk_drewN ?_ _ | refine blk_drew ?_ | refine blk_alloc ?_ _)); exact BK318.out), (by (with_reducible repeat (first | refine blk_drewN ?_ _ | refine blk_drew ?_ | refine blk_alloc ?_ _)); exact BK330.out), GW330.out, GE330.out, NB318_330.out, NB330_318.out, (by repeat (first | (with_reducible first | exact HB.out | apply below_alloc | apply pw_below_drewN | apply below_drew1 | refine below_set ?_ GE318.out | refine below_set ?_ GE330.out) | exact HB.out))⟩)
              rintro gb330 w22 ⟨hS_, h0_, h1_, h2_, h3_, h4_, h5_, h6_, h7_⟩
              have n0_ : Aside0 (Kd.R Kd.string 9 w22 w.heap.size (fun _ => True) (.slice (some ad322) t319.length co19) t319) := ⟨h0_⟩
              have n1_ : Aside0 (w22.heap[gb318]? = some (.cells #[.string (⟨#[]⟩ : ByteArray), .int .i64 0, .int .i64 0, .string (⟨#[]⟩ : ByteArray)] 29 (0, 0))) := ⟨h1_⟩
              have n2_ : Aside0 (w22.heap[gb330]? = some (.cells #[.string (⟨#[]⟩ : ByteArray), .int .i64 0, .int .i64 0, .string (⟨#[]⟩ : ByteArray)] 29 (0, 0))) := ⟨h2_⟩
              have n3_ : Aside0 (w.heap.size ≤ gb330) := ⟨h3_⟩
              have n4_ : Aside0 (w.heap.size ≤ gb330) := ⟨h4_⟩
              have n5_ : Aside0 (gb318 ≠ gb330) := ⟨h5_⟩
              have n6_ : Aside0 (gb330 ≠ gb318) := ⟨h6_⟩
              have n7_ : Aside0 (Below w.heap.size w w22) := ⟨h7_⟩
              clear HO321
              clear BK318
              clear HB
              clear h0_ h1_ h2_ h3_ h4_ h5_ h6_ h7_
              have HO321 := n0_
              have BK318 := n1_
              have BK330 := n2_
              have GW330 := n3_
              have GE330 := n4_
              have NB318_330 := n5_
              have NB330_318 := n6_
              have HB := n7_
              clear n0_ n1_ n2_ n3_ n4_ n5_ n6_ n7_
              have hHeld : w22.cell? ad322 = some (.string (rdOf ByteArray.empty t319 0)) ∧ w22.cell? ⟨ad322.block, ad322.off + 1, none⟩ = some (.string (rdOf ByteArray.empty t319 1)) ∧ w22.cell? ⟨ad322.block, ad322.off + 2, none⟩ = some (.string (rdOf ByteArray.empty t319 2)) ∧ w22.cell? ad322 = some (.string (rdOf ByteArray.empty t319 0)) ∧ w22.cell? ⟨ad322.block, ad322.off + 1, none⟩ = some (.string (rdOf ByteArray.empty t319 1)) ∧ w22.cell? ⟨ad322.block, ad322.off + 2, none⟩ = some (.string (rdOf ByteArray.empty t319 2)) := hS_
              refine norm_ (a' := ?_) ?_ ?_
              rotate_left
              · simp only [putAll, Act.put, List.setIfInBounds_toArray, List.set_cons_zero, List.set_cons_succ]
                rfl
              refine one_ (i := 30) (N := none) #[true, true, true, true, true, true, true, true, true, true, true, true, true, true, true, true, true, true, true, true, true, true, true, true, true, true, true, true, true, true, true] rfl rfl (one_of HT_.out (by kernel_rfl)) (by decide) (fun K hK => ?_)
              have hs23 : w22.cell? ⟨gb330, 0, none⟩ = some (.string (⟨#[]⟩ : ByteArray)) := (blk_cell BK330.out 0).trans rfl
              have hfs23 := blk_frozen BK330.out 0
              have hns23_0 := NB318_330.out
              have hms23_0 := NB330_318.out
              have hs24 : w22.cell? ⟨gb330, 1, none⟩ = some (.int .i64 0) := (blk_cell BK330.out 1).trans rfl
              have hfs24 := blk_frozen BK330.out 1
              have hns24_0 := NB318_330.out
              have hms24_0 := NB330_318.out
              have hs25 : w22.cell? ⟨gb330, 2, none⟩ = some (.int .i64 0) := (blk_cell BK330.out 2).trans rfl
              have hfs25 := blk_frozen BK330.out 2
              have hns25_0 := NB318_330.out
              have hms25_0 := NB330_318.out
              have hs26 : w22.cell? ⟨gb330, 3, none⟩ = some (.string (⟨#[]⟩ : ByteArray)) := (blk_cell BK330.out 3).trans rfl
              have hfs26 := blk_frozen BK330.out 3
              have hns26_0 := NB318_330.out
              have hms26_0 := NB330_318.out
              refine skip_ (w1 := ?_) (by rfl) rfl ?_ ?_
              rotate_left
              · go_simp
                rfl
              refine hK.out _ _ ⟨((cell_far (p := ⟨gb330, _, none⟩) (by first | exact Kd.own_blk (Kd.R_ne HO321.out BK330.out (by decide)) | (rw [add_block]; exact Kd.own_blk (Kd.R_ne HO321.out BK330.out (by decide))) | (show (Addr.add _ _).block ≠ _; rw [add_block]; exact Kd.own_blk (Kd.R_ne HO321.out BK330.out (by decide))) | (dsimp only; exact Kd.own_blk (Kd.R_ne HO321.out BK330.out (by decide)))) _).trans (((cell_far (p := ⟨gb330, _, none⟩) (by first | exact Kd.own_blk (Kd.R_ne HO321.out BK330.out (by decide)) | (rw [add_block]; exact Kd.own_blk (Kd.R_ne HO321.out BK330.out (by decide))) | (show (Addr.add _ _).block ≠ _; rw [add_block]; exact Kd.own_blk (Kd.R_ne HO321.out BK330.out (by decide))) | (dsimp only; exact Kd.own_blk (Kd.R_ne HO321.out BK330.out (by decide)))) _).trans (((cell_far (p := ⟨gb330, _, none⟩) (by first | exact Kd.own_blk (Kd.R_ne HO321.out BK330.out (by decide)) | (rw [add_block]; exact Kd.own_blk (Kd.R_ne HO321.out BK330.out (by decide))) | (show (Addr.add _ _).block ≠ _; rw [add_block]; exact Kd.own_blk (Kd.R_ne HO321.out BK330.out (by decide))) | (dsimp only; exact Kd.own_blk (Kd.R_ne HO321.out BK330.out (by decide)))) _).trans (((cell_far (p := ⟨gb330, _, none⟩) (by first | exact Kd.own_blk (Kd.R_ne HO321.out BK330.out (by decide)) | (rw [add_block]; exact Kd.own_blk (Kd.R_ne HO321.out BK330.out (by decide))) | (show (Addr.add _ _).block ≠ _; rw [add_block]; exact Kd.own_blk (Kd.R_ne HO321.out BK330.out (by decide))) | (dsimp only; exact Kd.own_blk (Kd.R_ne HO321.out BK330.out (by decide)))) _).trans (hHeld.1)))))))), ((cell_far (p := ⟨gb330, _, none⟩) (by first | exact Kd.own_blk (Kd.R_ne HO321.out BK330.out (by decide)) | (rw [add_block]; exact Kd.own_blk (Kd.R_ne HO321.out BK330.out (by decide))) | (show (Addr.add _ _).block ≠ _; rw [add_block]; exact Kd.own_blk (Kd.R_ne HO321.out BK330.out (by decide))) | (dsimp only; exact Kd.own_blk (Kd.R_ne HO321.out BK330.out (by decide)))) _).trans (((cell_far (p := ⟨gb330, _, none⟩) (by first | exact Kd.own_blk (Kd.R_ne HO321.out BK330.out (by decide)) | (rw [add_block]; exact Kd.own_blk (Kd.R_ne HO321.out BK330.out (by decide))) | (show (Addr.add _ _).block ≠ _; rw [add_block]; exact Kd.own_blk (Kd.R_ne HO321.out BK330.out (by decide))) | (dsimp only; exact Kd.own_blk (Kd.R_ne HO321.out BK330.out (by decide)))) _).trans (((cell_far (p := ⟨gb330, _, none⟩) (by first | exact Kd.own_blk (Kd.R_ne HO321.out BK330.out (by decide)) | (rw [add_block]; exact Kd.own_blk (Kd.R_ne HO321.out BK330.out (by decide))) | (show (Addr.add _ _).block ≠ _; rw [add_block]; exact Kd.own_blk (Kd.R_ne HO321.out BK330.out (by decide))) | (dsimp only; exact Kd.own_blk (Kd.R_ne HO321.out BK330.out (by decide)))) _).trans (((cell_far (p := ⟨gb330, _, none⟩) (by first | exact Kd.own_blk (Kd.R_ne HO321.out BK330.out (by decide)) | (rw [add_block]; exact Kd.own_blk (Kd.R_ne HO321.out BK330.out (by decide))) | (show (Addr.add _ _).block ≠ _; rw [add_block]; exact Kd.own_blk (Kd.R_ne HO321.out BK330.out (by decide))) | (dsimp only; exact Kd.own_blk (Kd.R_ne HO321.out BK330.out (by decide)))) _).trans (hHeld.2.1)))))))), ((cell_far (p := ⟨gb330, _, none⟩) (by first | exact Kd.own_blk (Kd.R_ne HO321.out BK330.out (by decide)) | (rw [add_block]; exact Kd.own_blk (Kd.R_ne HO321.out BK330.out (by decide))) | (show (Addr.add _ _).block ≠ _; rw [add_block]; exact Kd.own_blk (Kd.R_ne HO321.out BK330.out (by decide))) | (dsimp only; exact Kd.own_blk (Kd.R_ne HO321.out BK330.out (by decide)))) _).trans (((cell_far (p := ⟨gb330, _, none⟩) (by first | exact Kd.own_blk (Kd.R_ne HO321.out BK330.out (by decide)) | (rw [add_block]; exact Kd.own_blk (Kd.R_ne HO321.out BK330.out (by decide))) | (show (Addr.add _ _).block ≠ _; rw [add_block]; exact Kd.own_blk (Kd.R_ne HO321.out BK330.out (by decide))) | (dsimp only; exact Kd.own_blk (Kd.R_ne HO321.out BK330.out (by decide)))) _).trans (((cell_far (p := ⟨gb330, _, none⟩) (by first | exact Kd.own_blk (Kd.R_ne HO321.out BK330.out (by decide)) | (rw [add_block]; exact Kd.own_blk (Kd.R_ne HO321.out BK330.out (by decide))) | (show (Addr.add _ _).block ≠ _; rw [add_block]; exact Kd.own_blk (Kd.R_ne HO321.out BK330.out (by decide))) | (dsimp only; exact Kd.own_blk (Kd.R_ne HO321.out BK330.out (by decide)))) _).trans (((cell_far (p := ⟨gb330, _, none⟩) (by first | exact Kd.own_blk (Kd.R_ne HO321.out BK330.out (by decide)) | (rw [add_block]; exact Kd.own_blk (Kd.R_ne HO321.out BK330.out (by decide))) | (show (Addr.add _ _).block ≠ _; rw [add_block]; exact Kd.own_blk (Kd.R_ne HO321.out BK330.out (by decide))) | (dsimp only; exact Kd.own_blk (Kd.R_ne HO321.out BK330.out (by decide)))) _).trans (hHeld.2.2.1)))))))), ((cell_far (p := ⟨gb330, _, none⟩) (by first | exact Kd.own_blk (Kd.R_ne HO321.out BK330.out (by decide)) | (rw [add_block]; exact Kd.own_blk (Kd.R_ne HO321.out BK330.out (by decide))) | (show (Addr.add _ _).block ≠ _; rw [add_block]; exact Kd.own_blk (Kd.R_ne HO321.out BK330.out (by decide))) | (dsimp only; exact Kd.own_blk (Kd.R_ne HO321.out BK330.out (by decide)))) _).trans (((cell_far (p := ⟨gb330, _, none⟩) (by first | exact Kd.own_blk (Kd.R_ne HO321.out BK330.out (by decide)) | (rw [add_block]; exact Kd.own_blk (Kd.R_ne HO321.out BK330.out (by decide))) | (show (Addr.add _ _).block ≠ _; rw [add_block]; exact Kd.own_blk (Kd.R_ne HO321.out BK330.out (by decide))) | (dsimp only; exact Kd.own_blk (Kd.R_ne HO321.out BK330.out (by decide)))) _).trans (((cell_far (p := ⟨gb330, _, none⟩) (by first | exact Kd.own_blk (Kd.R_ne HO321.out BK330.out (by decide)) | (rw [add_block]; exact Kd.own_blk (Kd.R_ne HO321.out BK330.out (by decide))) | (show (Addr.add _ _).block ≠ _; rw [add_block]; exact Kd.own_blk (Kd.R_ne HO321.out BK330.out (by decide))) | (dsimp only; exact Kd.own_blk (Kd.R_ne HO321.out BK330.out (by decide)))) _).trans (((cell_far (p := ⟨gb330, _, none⟩) (by first | exact Kd.own_blk (Kd.R_ne HO321.out BK330.out (by decide)) | (rw [add_block]; exact Kd.own_blk (Kd.R_ne HO321.out BK330.out (by decide))) | (show (Addr.add _ _).block ≠ _; rw [add_block]; exact Kd.own_blk (Kd.R_ne HO321.out BK330.out (by decide))) | (dsimp only; exact Kd.own_blk (Kd.R_ne HO321.out BK330.out (by decide)))) _).trans (hHeld.2.2.2.1)))))))), ((cell_far (p := ⟨gb330, _, none⟩) (by first | exact Kd.own_blk (Kd.R_ne HO321.out BK330.out (by decide)) | (rw [add_block]; exact Kd.own_blk (Kd.R_ne HO321.out BK330.out (by decide))) | (show (Addr.add _ _).block ≠ _; rw [add_block]; exact Kd.own_blk (Kd.R_ne HO321.out BK330.out (by decide))) | (dsimp only; exact Kd.own_blk (Kd.R_ne HO321.out BK330.out (by decide)))) _).trans (((cell_far (p := ⟨gb330, _, none⟩) (by first | exact Kd.own_blk (Kd.R_ne HO321.out BK330.out (by decide)) | (rw [add_block]; exact Kd.own_blk (Kd.R_ne HO321.out BK330.out (by decide))) | (show (Addr.add _ _).block ≠ _; rw [add_block]; exact Kd.own_blk (Kd.R_ne HO321.out BK330.out (by decide))) | (dsimp only; exact Kd.own_blk (Kd.R_ne HO321.out BK330.out (by decide)))) _).trans (((cell_far (p := ⟨gb330, _, none⟩) (by first | exact Kd.own_blk (Kd.R_ne HO321.out BK330.out (by decide)) | (rw [add_block]; exact Kd.own_blk (Kd.R_ne HO321.out BK330.out (by decide))) | (show (Addr.add _ _).block ≠ _; rw [add_block]; exact Kd.own_blk (Kd.R_ne HO321.out BK330.out (by decide))) | (dsimp only; exact Kd.own_blk (Kd.R_ne HO321.out BK330.out (by decide)))) _).trans (((cell_far (p := ⟨gb330, _, none⟩) (by first | exact Kd.own_blk (Kd.R_ne HO321.out BK330.out (by decide)) | (rw [add_block]; exact Kd.own_blk (Kd.R_ne HO321.out BK330.out (by decide))) | (show (Addr.add _ _).block ≠ _; rw [add_block]; exact Kd.own_blk (Kd.R_ne HO321.out BK330.out (by decide))) | (dsimp only; exact Kd.own_blk (Kd.R_ne HO321.out BK330.out (by decide)))) _).trans (hHeld.2.2.2.2.1)))))))), ((cell_far (p := ⟨gb330, _, none⟩) (by first | exact Kd.own_blk (Kd.R_ne HO321.out BK330.out (by decide)) | (rw [add_block]; exact Kd.own_blk (Kd.R_ne HO321.out BK330.out (by decide))) | (show (Addr.add _ _).block ≠ _; rw [add_block]; exact Kd.own_blk (Kd.R_ne HO321.out BK330.out (by decide))) | (dsimp only; exact Kd.own_blk (Kd.R_ne HO321.out BK330.out (by decide)))) _).trans (((cell_far (p := ⟨gb330, _, none⟩) (by first | exact Kd.own_blk (Kd.R_ne HO321.out BK330.out (by decide)) | (rw [add_block]; exact Kd.own_blk (Kd.R_ne HO321.out BK330.out (by decide))) | (show (Addr.add _ _).block ≠ _; rw [add_block]; exact Kd.own_blk (Kd.R_ne HO321.out BK330.out (by decide))) | (dsimp only; exact Kd.own_blk (Kd.R_ne HO321.out BK330.out (by decide)))) _).trans (((cell_far (p := ⟨gb330, _, none⟩) (by first | exact Kd.own_blk (Kd.R_ne HO321.out BK330.out (by decide)) | (rw [add_block]; exact Kd.own_blk (Kd.R_ne HO321.out BK330.out (by decide))) | (show (Addr.add _ _).block ≠ _; rw [add_block]; exact Kd.own_blk (Kd.R_ne HO321.out BK330.out (by decide))) | (dsimp only; exact Kd.own_blk (Kd.R_ne HO321.out BK330.out (by decide)))) _).trans (((cell_far (p := ⟨gb330, _, none⟩) (by first | exact Kd.own_blk (Kd.R_ne HO321.out BK330.out (by decide)) | (rw [add_block]; exact Kd.own_blk (Kd.R_ne HO321.out BK330.out (by decide))) | (show (Addr.add _ _).block ≠ _; rw [add_block]; exact Kd.own_blk (Kd.R_ne HO321.out BK330.out (by decide))) | (dsimp only; exact Kd.own_blk (Kd.R_ne HO321.out BK330.out (by decide)))) _).trans (hHeld.2.2.2.2.2))))))))⟩ (fun hHeld => ?_)
              clear hK K
              refine done_ (done_of HT_.out (by kernel_rfl)) ?_
              have hnb27 := NB330_318.out
              have hnc27 := NB318_330.out
              have hcz28_0 : w22.cell? ⟨gb330, 0, none⟩ = some (.string (⟨#[]⟩ : ByteArray)) := (blk_cell BK330.out 0).trans rfl
              have hcz28_1 : w22.cell? ⟨gb330, 1, none⟩ = some (.int .i64 0) := (blk_cell BK330.out 1).trans rfl
              have hcz28_2 : w22.cell? ⟨gb330, 2, none⟩ = some (.int .i64 0) := (blk_cell BK330.out 2).trans rfl
              have hcz28_3 : w22.cell? ⟨gb330, 3, none⟩ = some (.string (⟨#[]⟩ : ByteArray)) := (blk_cell BK330.out 3).trans rfl
              have hfz28_0 := blk_frozen BK330.out 0
              have hfz28_1 := blk_frozen BK330.out 1
              have hfz28_2 := blk_frozen BK330.out 2
              have hfz28_3 := blk_frozen BK330.out 3
              go_upto_if 43 with (fail)
              go_cut [] (fun wc => ∃ (kq : Nat) (x331000_15 : ByteArray), Aside0 (spec_ReadRecord.j0 kq a0 x331000_15 t326 t324 (a0.extract ((ji13) : Int).toNat a0.size) = some (r1, r2, r3, r4, r5)) ∧ Aside0 (kq ≤ k) ∧ Aside0 (wc.heap[gb318]? = some (.cells #[.string (⟨#[]⟩ : ByteArray), .int .i64 0, .int .i64 0, .string (⟨#[]⟩ : ByteArray)] 29 (0, 0))) ∧ Aside0 (wc.heap[gb330]? = some (.cells #[.string x331000_15, .int .i64 t326, .int .i64 t324, .string (a0.extract ((ji13) : Int).toNat a0.size)] 29 (0, 0))) ∧ Aside0 (Below w.heap.size w wc))
              case first =>
                have H := HC16.out
                clear HC16
                by_cases c29 : (rdOf ByteArray.empty t319 0).toList = ([46] : List UInt8)
                · rw [if_pos c29] at H
                  have c29b0 : ((rdOf ByteArray.empty t319 0).toList == ([46] : List UInt8)) = true := beq_iff_eq.mpr c29
                  have c29b1 : ((rdOf ByteArray.empty t319 0).toList != ([46] : List UInt8)) = false := bne_eq_false_iff_eq.mpr c29
                  clear c29
                  (first | rw [c29b0] | (simp only [i64_w, i32_w]; rw [c29b0]) | skip)
                  have H' := Aside0.mk H
                  clear H
                  have hnb30 := NB330_318.out
                  have hnc30 := NB318_330.out
                  have hcz31_0 : w22.cell? ⟨gb330, 0, none⟩ = some (.string (⟨#[]⟩ : ByteArray)) := (blk_cell BK330.out 0).trans rfl
                  have hcz31_1 : w22.cell? ⟨gb330, 1, none⟩ = some (.int .i64 0) := (blk_cell BK330.out 1).trans rfl
                  have hcz31_2 : w22.cell? ⟨gb330, 2, none⟩ = some (.int .i64 0) := (blk_cell BK330.out 2).trans rfl
                  have hcz31_3 : w22.cell? ⟨gb330, 3, none⟩ = some (.string (⟨#[]⟩ : ByteArray)) := (blk_cell BK330.out 3).trans rfl
                  have hfz31_0 := blk_frozen BK330.out 0
                  have hfz31_1 := blk_frozen BK330.out 1
                  have hfz31_2 := blk_frozen BK330.out 2
                  have hfz31_3 := blk_frozen BK330.out 3
                  go_wp2
                  go_meet
                  case rel => exact ⟨_, ((⟨#[]⟩ : ByteArray)), H', ⟨by first | omega | exact Nat.le_refl _⟩, ⟨by (with_reducible repeat (first | refine blk_drewN ?_ _ | refine blk_drew ?_ | refine blk_alloc ?_ _)); refine blk_far ?_ NB318_330.out _; (with_reducible repeat (first | refine blk_drewN ?_ _ | refine blk_drew ?_ | refine blk_alloc ?_ _)); refine blk_far ?_ NB318_330.out _; (with_reducible repeat (first | refine blk_drewN ?_ _ | refine blk_drew ?_ | refine blk_alloc ?_ _)); refine blk_far ?_ NB318_330.out _; (with_reducible repeat (first | refine blk_drewN ?_ _ | refine blk_drew ?_ | refine blk_alloc ?_ _)); refine blk_far ?_ NB318_330.out _; (with_reducible repeat (first | refine blk_drewN ?_ _ | refine blk_drew ?_ | refine blk_alloc ?_ _)); refine blk_far ?_ NB318_330.out _; (with_reducible repeat (first | refine blk_drewN ?_ _ | refine blk_drew ?_ | refine blk_alloc ?_ _)); exact BK318.out⟩, ⟨by (with_reducible repeat (first | refine blk_drewN ?_ _ | refine blk_drew ?_ | refine blk_alloc ?_ _)); refine blk_put (cs := #[.string (rdOf ByteArray.empty t319 0), .int .i64 t326, .int .i64 t324, .string (a0.extract ((ji13) : Int).toNat a0.size)]) ?_ 0 _ rfl; (with_reducible repeat (first | refine blk_drewN ?_ _ | refine blk_drew ?_ | refine blk_alloc ?_ _)); refine blk_put (cs := #[.string (rdOf ByteArray.empty t319 0), .int .i64 t326, .int .i64 t324, .string (⟨#[]⟩ : ByteArray)]) ?_ 3 _ rfl; (with_reducible repeat (first | refine blk_drewN ?_ _ | refine blk_drew ?_ | refine blk_alloc ?_ _)); refine blk_put (cs := #[.string (rdOf ByteArray.empty t319 0), .int .i64 t326, .int .i64 0, .string (⟨#[]⟩ : ByteArray)]) ?_ 2 _ rfl; (with_reducible repeat (first | refine blk_drewN ?_ _ | refine blk_drew ?_ | refine blk_alloc ?_ _)); refine blk_put (cs := #[.string (rdOf ByteArray.empty t319 0), .int .i64 0, .int .i64 0, .string (⟨#[]⟩ : ByteArray)]) ?_ 1 _ rfl; (with_reducible repeat (first | refine blk_drewN ?_ _ | refine blk_drew ?_ | refine blk_alloc ?_ _)); refine blk_put (cs := #[.string (⟨#[]⟩ : ByteArray), .int .i64 0, .int .i64 0, .string (⟨#[]⟩ : ByteArray)]) ?_ 0 _ rfl; (with_reducible repeat (first | refine blk_drewN ?_ _ | refine blk_drew ?_ | refine blk_alloc ?_ _)); exact BK330.out⟩, ⟨by repeat (first | (with_reducible first | exact HB.out | apply below_alloc | apply pw_below_drewN | apply below_drew1 | refine below_set ?_ GE318.out | refine below_set ?_ GE330.out) | exact HB.out)⟩⟩
                · rw [if_neg c29] at H
                  have c29b0 : ((rdOf ByteArray.empty t319 0).toList == ([46] : List UInt8)) = false := beq_eq_false_iff_ne.mpr c29
                  have c29b1 : ((rdOf ByteArray.empty t319 0).toList != ([46] : List UInt8)) = true := bne_iff_ne.mpr c29
                  (first | rw [c29b0] | (simp only [i64_w, i32_w]; rw [c29b0]) | skip)
                  have H' := Aside0.mk H
                  clear H
                  go_wp2
                  go_meet
                  case rel => exact ⟨_, (rdOf ByteArray.empty t319 0), H', ⟨by first | omega | exact Nat.le_refl _⟩, ⟨by (with_reducible repeat (first | refine blk_drewN ?_ _ | refine blk_drew ?_ | refine blk_alloc ?_ _)); refine blk_far ?_ NB318_330.out _; (with_reducible repeat (first | refine blk_drewN ?_ _ | refine blk_drew ?_ | refine blk_alloc ?_ _)); refine blk_far ?_ NB318_330.out _; (with_reducible repeat (first | refine blk_drewN ?_ _ | refine blk_drew ?_ | refine blk_alloc ?_ _)); refine blk_far ?_ NB318_330.out _; (with_reducible repeat (first | refine blk_drewN ?_ _ | refine blk_drew ?_ | refine blk_alloc ?_ _)); refine blk_far ?_ NB318_330.out _; (with_reducible repeat (first | refine blk_drewN ?_ _ | refine blk_drew ?_ | refine blk_alloc ?_ _)); exact BK318.out⟩, ⟨by (with_reducible repeat (first | refine blk_drewN ?_ _ | refine blk_drew ?_ | refine blk_alloc ?_ _)); refine blk_put (cs := #[.string (rdOf ByteArray.empty t319 0), .int .i64 t326, .int .i64 t324, .string (⟨#[]⟩ : ByteArray)]) ?_ 3 _ rfl; (with_reducible repeat (first | refine blk_drewN ?_ _ | refine blk_drew ?_ | refine blk_alloc ?_ _)); refine blk_put (cs := #[.string (rdOf ByteArray.empty t319 0), .int .i64 t326, .int .i64 0, .string (⟨#[]⟩ : ByteArray)]) ?_ 2 _ rfl; (with_reducible repeat (first | refine blk_drewN ?_ _ | refine blk_drew ?_ | refine blk_alloc ?_ _)); refine blk_put (cs := #[.string (rdOf ByteArray.empty t319 0), .int .i64 0, .int .i64 0, .string (⟨#[]⟩ : ByteArray)]) ?_ 1 _ rfl; (with_reducible repeat (first | refine blk_drewN ?_ _ | refine blk_drew ?_ | refine blk_alloc ?_ _)); refine blk_put (cs := #[.string (⟨#[]⟩ : ByteArray), .int .i64 0, .int .i64 0, .string (⟨#[]⟩ : ByteArray)]) ?_ 0 _ rfl; (with_reducible repeat (first | refine blk_drewN ?_ _ | refine blk_drew ?_ | refine blk_alloc ?_ _)); exact BK330.out⟩, ⟨by repeat (first | (with_reducible first | exact HB.out | apply below_alloc | apply pw_below_drewN | apply below_drew1 | refine below_set ?_ GE318.out | refine below_set ?_ GE330.out) | exact HB.out)⟩⟩
              case rest =>
                clear HC16
                try clear c1
                try clear c2
                try clear p2
                try clear c3
                try clear p3
                try clear q3
                try clear hx3
                try clear qi3
                try clear p6
                try clear c14
                try clear c14b0
                try clear c14b1
                try clear c15
                try clear c15b0
                try clear c15b1
                try clear c18
                try clear c27
                try clear c29
                try clear c29b0
                try clear c29b1
                try clear c30
                try clear hcz28_0
                try clear hcz28_1
                try clear hcz28_2
                try clear hcz28_3
                try clear hcz31_0
                try clear hcz31_1
                try clear hcz31_2
                try clear hcz31_3
                try clear hfz28_0
                try clear hfz28_1
                try clear hfz28_2
                try clear hfz28_3
                try clear hfz31_0
                try clear hfz31_1
                try clear hfz31_2
                try clear hfz31_3
                try clear hx322_0
                try clear hx323_0
                try clear hx325_0
                try clear hx327_0
                try clear hx328_0
                try clear hx329_0
                try clear p322
                try clear p323
                try clear p325
                try clear p327
                try clear p328
                try clear p329
                try clear q322
                try clear q323
                try clear q325
                try clear q327
                try clear q328
                try clear q329
                obtain ⟨kq, x331000_15, HA, HJ15, BK318, BK330, HB⟩ := hcut
                cases kq with
                | zero => exact absurd HA.out (by simp [spec_ReadRecord.j0])
                | succ kj15 =>
                  have H := HA.out
                  clear HA
                  simp only [spec_ReadRecord.j0] at H
                  replace H := Option.bind_eq_some_iff.mp H
                  obtain ⟨t331, A320, H⟩ := H
                  replace H : (if t331 = true then ((spec_l3Text.f kj15 x331000_15 t326 t324 (a0.extract ((ji13) : Int).toNat a0.size)).bind fun t332 => (if t332.toList = a0.toList then (some (x331000_15, t326, t324, (a0.extract ((ji13) : Int).toNat a0.size), true)) else (some ((⟨#[]⟩ : ByteArray), 0, 0, (⟨#[]⟩ : ByteArray), false)))) else (some ((⟨#[]⟩ : ByteArray), 0, 0, (⟨#[]⟩ : ByteArray), false))) = some (r1, r2, r3, r4, r5) := H
                  have A32 := Aside0.mk A320
                  clear A320
                  by_cases c33 : t331 = true
                  · subst c33
                    have H1 : ((spec_l3Text.f kj15 x331000_15 t326 t324 (a0.extract ((ji13) : Int).toNat a0.size)).bind fun t332 => (if t332.toList = a0.toList then (some (x331000_15, t326, t324, (a0.extract ((ji13) : Int).toNat a0.size), true)) else (some ((⟨#[]⟩ : ByteArray), 0, 0, (⟨#[]⟩ : ByteArray), false)))) = some (r1, r2, r3, r4, r5) := by rw [if_pos rfl] at H; exact H
                    clear H
                    have H := H1
                    clear H1
                    replace H := Option.bind_eq_some_iff.mp H
                    obtain ⟨t332, A340, H⟩ := H
                    replace H : (if t332.toList = a0.toList then (some (x331000_15, t326, t324, (a0.extract ((ji13) : Int).toNat a0.size), true)) else (some ((⟨#[]⟩ : ByteArray), 0, 0, (⟨#[]⟩ : ByteArray), false))) = some (r1, r2, r3, r4, r5) := H
                    have A34 := Aside0.mk A340
                    clear A340
                    by_cases c35 : t332.toList = a0.toList
                    · rw [if_pos c35] at H
                      have c35b0 : (t332.toList == a0.toList) = true := beq_iff_eq.mpr c35
                      have c35b1 : (t332.toList != a0.toList) = false := bne_eq_false_iff_eq.mpr c35
                      clear c35
                      simp only [Option.some.injEq, Prod.mk.injEq] at H
                      obtain ⟨rfl, rfl, rfl, rfl, rfl⟩ := H
                      have hnb36 := NB330_318.out
                      have hnc36 := NB318_330.out
                      have hcz37_0 : wc.cell? ⟨gb330, 0, none⟩ = some (.string x331000_15) := (blk_cell BK330.out 0).trans rfl
                      have hcz37_1 : wc.cell? ⟨gb330, 1, none⟩ = some (.int .i64 t326) := (blk_cell BK330.out 1).trans rfl
                      have hcz37_2 : wc.cell? ⟨gb330, 2, none⟩ = some (.int .i64 t324) := (blk_cell BK330.out 2).trans rfl
                      have hcz37_3 : wc.cell? ⟨gb330, 3, none⟩ = some (.string (a0.extract ((ji13) : Int).toNat a0.size)) := (blk_cell BK330.out 3).trans rfl
                      have hfz37_0 := blk_frozen BK330.out 0
                      have hfz37_1 := blk_frozen BK330.out 1
                      have hfz37_2 := blk_frozen BK330.out 2
                      have hfz37_3 := blk_frozen BK330.out 3
                      go_wp2_with (first | ((with_reducible refine gate_callee (f := 11) rfl ?_); refine goesL_ (some 46) rfl rfl Tryd.func11 (by kernel_rfl) rfl #[.agg #[.string x331000_15, .int .i64 t326, .int .i64 t324, .string (a0.extract ((ji13) : Int).toNat a0.size)]] rfl (by (try simp only [List.map_toArray, List.map_cons, List.map_nil]); first | done | (simp only [hji13]; rfl) | rfl | (simp only [List.length_drop, List.length_take]; rfl)) ?_; (with_reducible refine (spec_GoodRecord.calls kj15 x331000_15 t326 t324 (a0.extract ((ji13) : Int).toNat a0.size) true _ A32.out).mono ?_); rintro e w38 ⟨rfl, hb⟩; refine ⟨_, rfl, ?_⟩; have n0_ := Aside0.mk (blk_below (g := gb318) (o := .cells #[.string (⟨#[]⟩ : ByteArray), .int .i64 0, .int .i64 0, .string (⟨#[]⟩ : ByteArray)] 29 (0, 0)) (by (with_reducible repeat (first | refine blk_drewN ?_ _ | refine blk_drew ?_ | refine blk_alloc ?_ _)); exact BK318.out) hb); have n1_ := Aside0.mk (blk_below (g := gb330) (o := .cells #[.string x331000_15, .int .i64 t326, .int .i64 t324, .string (a0.extract ((ji13) : Int).toNat a0.size)] 29 (0, 0)) (by (with_reducible repeat (first | refine blk_drewN ?_ _ | refine blk_drew ?_ | refine blk_alloc ?_ _)); exact BK330.out) hb); have n2_ := Aside0.mk (below_step (by repeat (first | (with_reducible first | exact HB.out | apply below_alloc | apply pw_below_drewN | apply below_drew1 | refine below_set ?_ GE318.out | refine below_set ?_ GE330.out) | exact HB.out)) hb); clear BK318; clear BK330; clear HB; have BK318 := n0_; have BK330 := n1_; have HB := n2_; clear n0_ n1_ n2_; (try clear hb); (try clear hb2); (try clear hk); (try clear hi); have hcz39_0 : w38.cell? ⟨gb330, 0, none⟩ = some (.string x331000_15) := (blk_cell BK330.out 0).trans rfl; have hcz39_1 : w38.cell? ⟨gb330, 1, none⟩ = some (.int .i64 t326) := (blk_cell BK330.out 1).trans rfl; have hcz39_2 : w38.cell? ⟨gb330, 2, none⟩ = some (.int .i64 t324) := (blk_cell BK330.out 2).trans rfl; have hcz39_3 : w38.cell? ⟨gb330, 3, none⟩ = some (.string (a0.extract ((ji13) : Int).toNat a0.size)) := (blk_cell BK330.out 3).trans rfl; have hfz39_0 := blk_frozen BK330.out 0; have hfz39_1 := blk_frozen BK330.out 1; have hfz39_2 := blk_frozen BK330.out 2; have hfz39_3 := blk_frozen BK330.out 3) | (go_at_call 36; (with_reducible refine (spec_l3Text.calls kj15 x331000_15 t326 t324 (a0.extract ((ji13) : Int).toNat a0.size) t332 _ A34.out).mono ?_); rintro e w40 ⟨rfl, hb⟩; have n0_ := Aside0.mk (blk_below (g := gb318) (o := .cells #[.string (⟨#[]⟩ : ByteArray), .int .i64 0, .int .i64 0, .string (⟨#[]⟩ : ByteArray)] 29 (0, 0)) (by (with_reducible repeat (first | refine blk_drewN ?_ _ | refine blk_drew ?_ | refine blk_alloc ?_ _)); exact BK318.out) hb); have n1_ := Aside0.mk (blk_below (g := gb330) (o := .cells #[.string x331000_15, .int .i64 t326, .int .i64 t324, .string (a0.extract ((ji13) : Int).toNat a0.size)] 29 (0, 0)) (by (with_reducible repeat (first | refine blk_drewN ?_ _ | refine blk_drew ?_ | refine blk_alloc ?_ _)); exact BK330.out) hb); have n2_ := Aside0.mk (below_step (by repeat (first | (with_reducible first | exact HB.out | apply below_alloc | apply pw_below_drewN | apply below_drew1 | refine below_set ?_ GE318.out | refine below_set ?_ GE330.out) | exact HB.out)) hb); clear BK318; clear BK330; clear HB; have BK318 := n0_; have BK330 := n1_; have HB := n2_; clear n0_ n1_ n2_; (try clear hb); (try clear hb2); (try clear hk); (try clear hi); have hcz41_0 : w40.cell? ⟨gb330, 0, none⟩ = some (.string x331000_15) := (blk_cell BK330.out 0).trans rfl; have hcz41_1 : w40.cell? ⟨gb330, 1, none⟩ = some (.int .i64 t326) := (blk_cell BK330.out 1).trans rfl; have hcz41_2 : w40.cell? ⟨gb330, 2, none⟩ = some (.int .i64 t324) := (blk_cell BK330.out 2).trans rfl; have hcz41_3 : w40.cell? ⟨gb330, 3, none⟩ = some (.string (a0.extract ((ji13) : Int).toNat a0.size)) := (blk_cell BK330.out 3).trans rfl; have hfz41_0 := blk_frozen BK330.out 0; have hfz41_1 := blk_frozen BK330.out 1; have hfz41_2 := blk_frozen BK330.out 2; have hfz41_3 := blk_frozen BK330.out 3; have hcz42_0 : w40.cell? ⟨gb318, 0, none⟩ = some (.string (⟨#[]⟩ : ByteArray)) := (blk_cell BK318.out 0).trans rfl; have hcz42_1 : w40.cell? ⟨gb318, 1, none⟩ = some (.int .i64 0) := (blk_cell BK318.out 1).trans rfl; have hcz42_2 : w40.cell? ⟨gb318, 2, none⟩ = some (.int .i64 0) := (blk_cell BK318.out 2).trans rfl; have hcz42_3 : w40.cell? ⟨gb318, 3, none⟩ = some (.string (⟨#[]⟩ : ByteArray)) := (blk_cell BK318.out 3).trans rfl; have hfz42_0 := blk_frozen BK318.out 0; have hfz42_1 := blk_frozen BK318.out 1; have hfz42_2 := blk_frozen BK318.out 2; have hfz42_3 := blk_frozen BK318.out 3))
                      refine bodyPost_ret (results_ct rfl _ _ gb318 29 #[.string x331000_15, .int .i64 t326, .int .i64 t324, .string (a0.extract ((ji13) : Int).toNat a0.size)] (0, 0) _ rfl (by (with_reducible repeat (first | refine blk_drewN ?_ _ | refine blk_drew ?_ | refine blk_alloc ?_ _)); refine blk_put (cs := #[.string x331000_15, .int .i64 t326, .int .i64 t324, .string (⟨#[]⟩ : ByteArray)]) ?_ 3 _ rfl; (with_reducible repeat (first | refine blk_drewN ?_ _ | refine blk_drew ?_ | refine blk_alloc ?_ _)); refine blk_put (cs := #[.string x331000_15, .int .i64 t326, .int .i64 0, .string (⟨#[]⟩ : ByteArray)]) ?_ 2 _ rfl; (with_reducible repeat (first | refine blk_drewN ?_ _ | refine blk_drew ?_ | refine blk_alloc ?_ _)); refine blk_put (cs := #[.string x331000_15, .int .i64 0, .int .i64 0, .string (⟨#[]⟩ : ByteArray)]) ?_ 1 _ rfl; (with_reducible repeat (first | refine blk_drewN ?_ _ | refine blk_drew ?_ | refine blk_alloc ?_ _)); refine blk_put (cs := #[.string (⟨#[]⟩ : ByteArray), .int .i64 0, .int .i64 0, .string (⟨#[]⟩ : ByteArray)]) ?_ 0 _ rfl; (with_reducible repeat (first | refine blk_drewN ?_ _ | refine blk_drew ?_ | refine blk_alloc ?_ _)); exact BK318.out) Tryd.underlying29 rfl (by kernel_rfl)) rfl ?_
                      exact ⟨by first | rfl | (simp [errW_none, errW_some] <;> rfl) | (simp only [← hji13]; first | rfl | (simp [errW_none, errW_some] <;> rfl)) | (simp [*, errW_none, errW_some] <;> rfl), by repeat (first | (with_reducible first | exact HB.out | apply below_alloc | apply pw_below_drewN | apply below_drew1 | refine below_set ?_ GE318.out | refine below_set ?_ GE330.out) | exact HB.out)⟩
                    · rw [if_neg c35] at H
                      have c35b0 : (t332.toList == a0.toList) = false := beq_eq_false_iff_ne.mpr c35
                      have c35b1 : (t332.toList != a0.toList) = true := bne_iff_ne.mpr c35
                      simp only [Option.some.injEq, Prod.mk.injEq] at H
                      obtain ⟨rfl, rfl, rfl, rfl, rfl⟩ := H
                      have hnb43 := NB330_318.out
                      have hnc43 := NB318_330.out
                      have hcz44_0 : wc.cell? ⟨gb330, 0, none⟩ = some (.string x331000_15) := (blk_cell BK330.out 0).trans rfl
                      have hcz44_1 : wc.cell? ⟨gb330, 1, none⟩ = some (.int .i64 t326) := (blk_cell BK330.out 1).trans rfl
                      have hcz44_2 : wc.cell? ⟨gb330, 2, none⟩ = some (.int .i64 t324) := (blk_cell BK330.out 2).trans rfl
                      have hcz44_3 : wc.cell? ⟨gb330, 3, none⟩ = some (.string (a0.extract ((ji13) : Int).toNat a0.size)) := (blk_cell BK330.out 3).trans rfl
                      have hfz44_0 := blk_frozen BK330.out 0
                      have hfz44_1 := blk_frozen BK330.out 1
                      have hfz44_2 := blk_frozen BK330.out 2
                      have hfz44_3 := blk_frozen BK330.out 3
                      go_wp2_with (first | ((with_reducible refine gate_callee (f := 11) rfl ?_); refine goesL_ (some 46) rfl rfl Tryd.func11 (by kernel_rfl) rfl #[.agg #[.string x331000_15, .int .i64 t326, .int .i64 t324, .string (a0.extract ((ji13) : Int).toNat a0.size)]] rfl (by (try simp only [List.map_toArray, List.map_cons, List.map_nil]); first | done | (simp only [hji13]; rfl) | rfl | (simp only [List.length_drop, List.length_take]; rfl)) ?_; (with_reducible refine (spec_GoodRecord.calls kj15 x331000_15 t326 t324 (a0.extract ((ji13) : Int).toNat a0.size) true _ A32.out).mono ?_); rintro e w45 ⟨rfl, hb⟩; refine ⟨_, rfl, ?_⟩; have n0_ := Aside0.mk (blk_below (g := gb318) (o := .cells #[.string (⟨#[]⟩ : ByteArray), .int .i64 0, .int .i64 0, .string (⟨#[]⟩ : ByteArray)] 29 (0, 0)) (by (with_reducible repeat (first | refine blk_drewN ?_ _ | refine blk_drew ?_ | refine blk_alloc ?_ _)); exact BK318.out) hb); have n1_ := Aside0.mk (blk_below (g := gb330) (o := .cells #[.string x331000_15, .int .i64 t326, .int .i64 t324, .string (a0.extract ((ji13) : Int).toNat a0.size)] 29 (0, 0)) (by (with_reducible repeat (first | refine blk_drewN ?_ _ | refine blk_drew ?_ | refine blk_alloc ?_ _)); exact BK330.out) hb); have n2_ := Aside0.mk (below_step (by repeat (first | (with_reducible first | exact HB.out | apply below_alloc | apply pw_below_drewN | apply below_drew1 | refine below_set ?_ GE318.out | refine below_set ?_ GE330.out) | exact HB.out)) hb); clear BK318; clear BK330; clear HB; have BK318 := n0_; have BK330 := n1_; have HB := n2_; clear n0_ n1_ n2_; (try clear hb); (try clear hb2); (try clear hk); (try clear hi); have hcz46_0 : w45.cell? ⟨gb330, 0, none⟩ = some (.string x331000_15) := (blk_cell BK330.out 0).trans rfl; have hcz46_1 : w45.cell? ⟨gb330, 1, none⟩ = some (.int .i64 t326) := (blk_cell BK330.out 1).trans rfl; have hcz46_2 : w45.cell? ⟨gb330, 2, none⟩ = some (.int .i64 t324) := (blk_cell BK330.out 2).trans rfl; have hcz46_3 : w45.cell? ⟨gb330, 3, none⟩ = some (.string (a0.extract ((ji13) : Int).toNat a0.size)) := (blk_cell BK330.out 3).trans rfl; have hfz46_0 := blk_frozen BK330.out 0; have hfz46_1 := blk_frozen BK330.out 1; have hfz46_2 := blk_frozen BK330.out 2; have hfz46_3 := blk_frozen BK330.out 3) | (go_at_call 36; (with_reducible refine (spec_l3Text.calls kj15 x331000_15 t326 t324 (a0.extract ((ji13) : Int).toNat a0.size) t332 _ A34.out).mono ?_); rintro e w47 ⟨rfl, hb⟩; have n0_ := Aside0.mk (blk_below (g := gb318) (o := .cells #[.string (⟨#[]⟩ : ByteArray), .int .i64 0, .int .i64 0, .string (⟨#[]⟩ : ByteArray)] 29 (0, 0)) (by (with_reducible repeat (first | refine blk_drewN ?_ _ | refine blk_drew ?_ | refine blk_alloc ?_ _)); exact BK318.out) hb); have n1_ := Aside0.mk (blk_below (g := gb330) (o := .cells #[.string x331000_15, .int .i64 t326, .int .i64 t324, .string (a0.extract ((ji13) : Int).toNat a0.size)] 29 (0, 0)) (by (with_reducible repeat (first | refine blk_drewN ?_ _ | refine blk_drew ?_ | refine blk_alloc ?_ _)); exact BK330.out) hb); have n2_ := Aside0.mk (below_step (by repeat (first | (with_reducible first | exact HB.out | apply below_alloc | apply pw_below_drewN | apply below_drew1 | refine below_set ?_ GE318.out | refine below_set ?_ GE330.out) | exact HB.out)) hb); clear BK318; clear BK330; clear HB; have BK318 := n0_; have BK330 := n1_; have HB := n2_; clear n0_ n1_ n2_; (try clear hb); (try clear hb2); (try clear hk); (try clear hi); have hcz48_0 : w47.cell? ⟨gb318, 0, none⟩ = some (.string (⟨#[]⟩ : ByteArray)) := (blk_cell BK318.out 0).trans rfl; have hcz48_1 : w47.cell? ⟨gb318, 1, none⟩ = some (.int .i64 0) := (blk_cell BK318.out 1).trans rfl; have hcz48_2 : w47.cell? ⟨gb318, 2, none⟩ = some (.int .i64 0) := (blk_cell BK318.out 2).trans rfl; have hcz48_3 : w47.cell? ⟨gb318, 3, none⟩ = some (.string (⟨#[]⟩ : ByteArray)) := (blk_cell BK318.out 3).trans rfl; have hfz48_0 := blk_frozen BK318.out 0; have hfz48_1 := blk_frozen BK318.out 1; have hfz48_2 := blk_frozen BK318.out 2; have hfz48_3 := blk_frozen BK318.out 3))
                      refine bodyPost_ret (results_ct rfl _ _ gb318 29 #[.string (⟨#[]⟩ : ByteArray), .int .i64 0, .int .i64 0, .string (⟨#[]⟩ : ByteArray)] (0, 0) _ rfl (by (with_reducible repeat (first | refine blk_drewN ?_ _ | refine blk_drew ?_ | refine blk_alloc ?_ _)); refine blk_put (cs := #[.string (⟨#[]⟩ : ByteArray), .int .i64 0, .int .i64 0, .string (⟨#[]⟩ : ByteArray)]) ?_ 3 _ rfl; (with_reducible repeat (first | refine blk_drewN ?_ _ | refine blk_drew ?_ | refine blk_alloc ?_ _)); refine blk_put (cs := #[.string (⟨#[]⟩ : ByteArray), .int .i64 0, .int .i64 0, .string (⟨#[]⟩ : ByteArray)]) ?_ 2 _ rfl; (with_reducible repeat (first | refine blk_drewN ?_ _ | refine blk_drew ?_ | refine blk_alloc ?_ _)); refine blk_put (cs := #[.string (⟨#[]⟩ : ByteArray), .int .i64 0, .int .i64 0, .string (⟨#[]⟩ : ByteArray)]) ?_ 1 _ rfl; (with_reducible repeat (first | refine blk_drewN ?_ _ | refine blk_drew ?_ | refine blk_alloc ?_ _)); refine blk_put (cs := #[.string (⟨#[]⟩ : ByteArray), .int .i64 0, .int .i64 0, .string (⟨#[]⟩ : ByteArray)]) ?_ 0 _ rfl; (with_reducible repeat (first | refine blk_drewN ?_ _ | refine blk_drew ?_ | refine blk_alloc ?_ _)); exact BK318.out) Tryd.underlying29 rfl (by kernel_rfl)) rfl ?_
                      exact ⟨by first | rfl | (simp [errW_none, errW_some] <;> rfl) | (simp only [← hji13]; first | rfl | (simp [errW_none, errW_some] <;> rfl)) | (simp [*, errW_none, errW_some] <;> rfl), by repeat (first | (with_reducible first | exact HB.out | apply below_alloc | apply pw_below_drewN | apply below_drew1 | refine below_set ?_ GE318.out | refine below_set ?_ GE330.out) | exact HB.out)⟩
                  · replace c33 := Bool.eq_false_iff.mpr c33
                    subst c33
                    have H1 : (some ((⟨#[]⟩ : ByteArray), 0, 0, (⟨#[]⟩ : ByteArray), false)) = some (r1, r2, r3, r4, r5) := by rw [if_neg (show ¬ (false = true) by decide)] at H; exact H
                    clear H
                    have H := H1
                    clear H1
                    simp only [Option.some.injEq, Prod.mk.injEq] at H
                    obtain ⟨rfl, rfl, rfl, rfl, rfl⟩ := H
                    have hnb49 := NB330_318.out
                    have hnc49 := NB318_330.out
                    have hcz50_0 : wc.cell? ⟨gb330, 0, none⟩ = some (.string x331000_15) := (blk_cell BK330.out 0).trans rfl
                    have hcz50_1 : wc.cell? ⟨gb330, 1, none⟩ = some (.int .i64 t326) := (blk_cell BK330.out 1).trans rfl
                    have hcz50_2 : wc.cell? ⟨gb330, 2, none⟩ = some (.int .i64 t324) := (blk_cell BK330.out 2).trans rfl
                    have hcz50_3 : wc.cell? ⟨gb330, 3, none⟩ = some (.string (a0.extract ((ji13) : Int).toNat a0.size)) := (blk_cell BK330.out 3).trans rfl
                    have hfz50_0 := blk_frozen BK330.out 0
                    have hfz50_1 := blk_frozen BK330.out 1
                    have hfz50_2 := blk_frozen BK330.out 2
                    have hfz50_3 := blk_frozen BK330.out 3
                    go_wp2_with (first | ((with_reducible refine gate_callee (f := 11) rfl ?_); refine goesL_ (some 46) rfl rfl Tryd.func11 (by kernel_rfl) rfl #[.agg #[.string x331000_15, .int .i64 t326, .int .i64 t324, .string (a0.extract ((ji13) : Int).toNat a0.size)]] rfl (by (try simp only [List.map_toArray, List.map_cons, List.map_nil]); first | done | (simp only [hji13]; rfl) | rfl | (simp only [List.length_drop, List.length_take]; rfl)) ?_; (with_reducible refine (spec_GoodRecord.calls kj15 x331000_15 t326 t324 (a0.extract ((ji13) : Int).toNat a0.size) false _ A32.out).mono ?_); rintro e w51 ⟨rfl, hb⟩; refine ⟨_, rfl, ?_⟩; have n0_ := Aside0.mk (blk_below (g := gb318) (o := .cells #[.string (⟨#[]⟩ : ByteArray), .int .i64 0, .int .i64 0, .string (⟨#[]⟩ : ByteArray)] 29 (0, 0)) (by (with_reducible repeat (first | refine blk_drewN ?_ _ | refine blk_drew ?_ | refine blk_alloc ?_ _)); exact BK318.out) hb); have n1_ := Aside0.mk (blk_below (g := gb330) (o := .cells #[.string x331000_15, .int .i64 t326, .int .i64 t324, .string (a0.extract ((ji13) : Int).toNat a0.size)] 29 (0, 0)) (by (with_reducible repeat (first | refine blk_drewN ?_ _ | refine blk_drew ?_ | refine blk_alloc ?_ _)); exact BK330.out) hb); have n2_ := Aside0.mk (below_step (by repeat (first | (with_reducible first | exact HB.out | apply below_alloc | apply pw_below_drewN | apply below_drew1 | refine below_set ?_ GE318.out | refine below_set ?_ GE330.out) | exact HB.out)) hb); clear BK318; clear BK330; clear HB; have BK318 := n0_; have BK330 := n1_; have HB := n2_; clear n0_ n1_ n2_; (try clear hb); (try clear hb2); (try clear hk); (try clear hi); have hcz52_0 : w51.cell? ⟨gb318, 0, none⟩ = some (.string (⟨#[]⟩ : ByteArray)) := (blk_cell BK318.out 0).trans rfl; have hcz52_1 : w51.cell? ⟨gb318, 1, none⟩ = some (.int .i64 0) := (blk_cell BK318.out 1).trans rfl; have hcz52_2 : w51.cell? ⟨gb318, 2, none⟩ = some (.int .i64 0) := (blk_cell BK318.out 2).trans rfl; have hcz52_3 : w51.cell? ⟨gb318, 3, none⟩ = some (.string (⟨#[]⟩ : ByteArray)) := (blk_cell BK318.out 3).trans rfl; have hfz52_0 := blk_frozen BK318.out 0; have hfz52_1 := blk_frozen BK318.out 1; have hfz52_2 := blk_frozen BK318.out 2; have hfz52_3 := blk_frozen BK318.out 3))
                    refine bodyPost_ret (results_ct rfl _ _ gb318 29 #[.string (⟨#[]⟩ : ByteArray), .int .i64 0, .int .i64 0, .string (⟨#[]⟩ : ByteArray)] (0, 0) _ rfl (by (with_reducible repeat (first | refine blk_drewN ?_ _ | refine blk_drew ?_ | refine blk_alloc ?_ _)); refine blk_put (cs := #[.string (⟨#[]⟩ : ByteArray), .int .i64 0, .int .i64 0, .string (⟨#[]⟩ : ByteArray)]) ?_ 3 _ rfl; (with_reducible repeat (first | refine blk_drewN ?_ _ | refine blk_drew ?_ | refine blk_alloc ?_ _)); refine blk_put (cs := #[.string (⟨#[]⟩ : ByteArray), .int .i64 0, .int .i64 0, .string (⟨#[]⟩ : ByteArray)]) ?_ 2 _ rfl; (with_reducible repeat (first | refine blk_drewN ?_ _ | refine blk_drew ?_ | refine blk_alloc ?_ _)); refine blk_put (cs := #[.string (⟨#[]⟩ : ByteArray), .int .i64 0, .int .i64 0, .string (⟨#[]⟩ : ByteArray)]) ?_ 1 _ rfl; (with_reducible repeat (first | refine blk_drewN ?_ _ | refine blk_drew ?_ | refine blk_alloc ?_ _)); refine blk_put (cs := #[.string (⟨#[]⟩ : ByteArray), .int .i64 0, .int .i64 0, .string (⟨#[]⟩ : ByteArray)]) ?_ 0 _ rfl; (with_reducible repeat (first | refine blk_drewN ?_ _ | refine blk_drew ?_ | refine blk_alloc ?_ _)); exact BK318.out) Tryd.underlying29 rfl (by kernel_rfl)) rfl ?_
                    exact ⟨by first | rfl | (simp [errW_none, errW_some] <;> rfl) | (simp only [← hji13]; first | rfl | (simp [errW_none, errW_some] <;> rfl)) | (simp [*, errW_none, errW_some] <;> rfl), by repeat (first | (with_reducible first | exact HB.out | apply below_alloc | apply pw_below_drewN | apply below_drew1 | refine below_set ?_ GE318.out | refine below_set ?_ GE330.out) | exact HB.out)⟩
            · rw [if_neg c15] at H
              exact absurd H (by simp)
          · rw [if_neg c14] at H
            exact absurd H (by simp)
        · rw [if_neg c11] at H
          exact absurd H (by simp)
      · rw [if_neg c9] at H
        exact absurd H (by simp)
    · rw [if_neg c8] at H
      exact absurd H (by simp)

end Go.Proofs.YtecmicedacppbaaDoor.P
