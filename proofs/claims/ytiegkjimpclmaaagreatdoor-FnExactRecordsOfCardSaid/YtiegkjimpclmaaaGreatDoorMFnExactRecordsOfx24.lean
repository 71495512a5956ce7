/- FnExactRecordsOf: part 25 of 28 of my texts for this claim, joined; the theorem stands in the last. Conditions: none beyond the statement's. -/
import Derived.Test.YtiegkjimpclmaaaGreatDoorMFnExactRecordsOfx22
namespace Go.Proofs.YtiegkjimpclmaaaGreatDoor.P
open Go.RowKit Go.Proofs.YtiegkjimpclmaaaGreatDoorW.PrintWords Go.Proofs.YtiegkjimpclmaaaGreatDoorW.PrintLast Go.Proofs.YtiegkjimpclmaaaGreatDoorW.PrintMore
attribute [local go_sem] max2_int min2_int max_two min_two max_three min_three max_four min_four
set_option linter.unusedVariables false
set_option linter.unusedSimpArgs false
mutual
def impl_RecordsOf.l0 : Nat → List (S83) → List (S45) → List (S83) → Int → Int → Option ((List (S45)) × Bool)
 | 0, _, _, _, _, _ => none
 | k + 1, x0, x4, x15, x16, x17 => if x17 < x16 then (if 0 ≤ x17 then (if x17 < (x15.length : Int) then (if (((rd_T83 x15 x17).f3).length : Int) = 0 then (impl_RecordsOf.j1 k x0 x4 x15 x16 x17 true ((rd_T83 x15 x17).f0) ((rd_T83 x15 x17).f1) ((rd_T83 x15 x17).f2) ((rd_T83 x15 x17).f3)) else (if (wrap64 ((x4.length : Int) + (((rd_T83 x15 x17).f3).length : Int))) > 60 then (impl_RecordsOf.j1 k x0 x4 x15 x16 x17 true ((rd_T83 x15 x17).f0) ((rd_T83 x15 x17).f1) ((rd_T83 x15 x17).f2) ((rd_T83 x15 x17).f3)) else (if x17 > 0 then (if 0 ≤ (wrap64 (x17 - 1)) then (if (wrap64 (x17 - 1)) < (x0.length : Int) then ((impl_compareKeys.f k ((rd_T83 x0 (wrap64 (x17 - 1))).f0) ((rd_T83 x0 (wrap64 (x17 - 1))).f1) 0 (⟨#[]⟩ : ByteArray) ((rd_T83 x15 x17).f0) ((rd_T83 x15 x17).f1) 0 (⟨#[]⟩ : ByteArray)).bind fun t428 => (impl_RecordsOf.j1 k x0 x4 x15 x16 x17 (decide (t428 ≥ 0)) ((rd_T83 x15 x17).f0) ((rd_T83 x15 x17).f1) ((rd_T83 x15 x17).f2) ((rd_T83 x15 x17).f3))) else (none)) else (none)) else (impl_RecordsOf.j1 k x0 x4 x15 x16 x17 false ((rd_T83 x15 x17).f0) ((rd_T83 x15 x17).f1) ((rd_T83 x15 x17).f2) ((rd_T83 x15 x17).f3))))) else (none)) else (none)) else (some (x4, true))
def impl_RecordsOf.j1 : Nat → List (S83) → List (S45) → List (S83) → Int → Int → Bool → ByteArray → Int → Int → List ByteArray → Option ((List (S45)) × Bool)
 | 0, _, _, _, _, _, _, _, _, _, _ => none
 | k + 1, x0, x4, x15, x16, x17, x61, x425000, x425001, x425002, x425003 => if x61 = true then (some (([] : List (S45)), false)) else (impl_RecordsOf.l1 k x0 x4 (x4.length : Int) x15 x16 x17 x425003 (x425003.length : Int) 0 x425000 x425001 x425002 x425003)
def impl_RecordsOf.l1 : Nat → List (S83) → List (S45) → Int → List (S83) → Int → Int → List ByteArray → Int → Int → ByteArray → Int → Int → List ByteArray → Option ((List (S45)) × Bool)
 | 0, _, _, _, _, _, _, _, _, _, _, _, _, _ => none
 | k + 1, x0, x4, x8, x15, x16, x17, x65, x66, x67, x425000, x425001, x425002, x425003 => if x67 < x66 then (if 0 ≤ x67 then (if x67 < (x65.length : Int) then (if x4.length < 2932031007402 then (impl_RecordsOf.l1 k x0 (x4 ++ [(⟨x425000, x425001, x425002, rdOf ByteArray.empty x65 x67⟩ : S45)]) x8 x15 x16 x17 x65 x66 (wrap64 (x67 + 1)) x425000 x425001 x425002 x425003) else (none)) else (none)) else (none)) else (if 0 ≤ x8 then (if x8 ≤ (x4.length : Int) then ((impl_areRising.f k (x4.drop (x8 : Int).toNat)).bind fun t437 => (if t437 = true then (impl_RecordsOf.l0 k x0 x4 x15 x16 (wrap64 (x17 + 1))) else (some (([] : List (S45)), false)))) else (none)) else (none))
end
def impl_RecordsOf.f (k : Nat) (l0 : List (S83)) : Option ((List (S45)) × Bool) := if (l0.length : Int) > 40 then (some (([] : List (S45)), false)) else (impl_RecordsOf.l0 k l0 (([] : List (S45))) l0 (l0.length : Int) 0)
def impl_RecordsOf.T8 : Bool × List (List Nat × List Nat) := (true, [([], []), ([0], [0]), ([1], [1]), ([2], [2]), ([3], [3]), ([4], [4]), ([5, 4], [4, 5]), ([4], [4]), ([7, 4], [4, 7]), ([8, 4], [4, 8]), ([6, 9, 4], [4, 6, 9]), ([10, 4], [4, 10]), ([4, 11], [4, 11]), ([12, 4], [12]), ([13], [13]), ([14, 13], [13, 14]), ([15, 13, 13], [13, 15]), ([16], [16]), ([16], [16]), ([18, 16], [16, 18]), ([17, 19, 16], [16, 17, 19]), ([20, 16], [16, 20]), ([21, 16], [16, 21]), ([16], [16]), ([16], [16]), ([24, 16], [16, 24]), ([23, 25, 16], [16, 23, 25]), ([26, 16], [16, 26]), ([27, 16], [16, 27]), ([22, 28, 16], [16, 22, 28]), ([16], [16]), ([29, 30, 16, 16], [16, 29, 30]), ([31, 16], [16, 31]), ([16, 32, 13], [13, 16, 32]), ([13, 33], [13, 33])])
def impl_RecordsOf.B8 : List Nat := [0, 1, 3, 7, 15, 31, 63, 31, 159, 415, 1023, 2047, 4095, 8191, 16383, 32767, 65535, 131071, 131071, 393215, 1048575, 2097151, 4194303, 131071, 131071, 16908287, 58851327, 125960191, 260177919, 536870911, 131071, 2147483647, 4294967295, 8589934591, 17179869183]
theorem impl_RecordsOf.tab8 : rtab .any (opsOf Tryz.f15 8) = impl_RecordsOf.T8 := by kernel_rfl
theorem impl_RecordsOf.bits8 : waitsOk impl_RecordsOf.T8.2 impl_RecordsOf.B8 = true := by kernel_rfl
set_option maxHeartbeats 8000000 in
set_option maxRecDepth 100000 in
theorem impl_RecordsOf.calls (k : Nat) (A0 : Option Addr) (c0 : Nat) (l0 : List (S83)) (r1 : List (S45)) (r2 : Bool) (w : World) (hr0 : Kd.C k83 w A0 l0.length l0) (hc0 : l0.length ≤ c0) (h : impl_RecordsOf.f k l0 = some (r1, r2)) (hv_ : Vars w := by exact vv_) :
 Calls Tryz.prog 15 #[.slice A0 l0.length c0] w fun e w' => ∃ v0_ : Value, e = .returned (.tuple #[v0_, .bool r2]) ∧ Kd.R k45 45 w' w.heap.size (fun _ => True) v0_ r1 ∧ Below w.heap.size w w' := by
 have HV_ := a0_ hv_
 clear hv_
 have hu83 := Tryz.underlying83
 have hu45 := Tryz.underlying45
 have HR0 := a0_ hr0
 have HC0 := a0_ hc0
 clear hr0 hc0
 have HB := a0_ (Below.refl w.heap.size w)
 have H := h
 clear h
 unfold impl_RecordsOf.f at H
 by_cases c2 : (l0.length : Int) > 40
 case pos =>
  rw [if_pos c2] at H
  have c2b0 := decide_eq_true c2
  have c2b1 : decide (40 < l0.length) = true := decide_eq_true (by omega)
  clear c2
  simp only [Option.some.injEq, Prod.mk.injEq] at H
  obtain ⟨rfl, rfl⟩ := H
  go_enter Tryz.func15, Tryz.ntmps15
  go_wp2
  go_ret2
  exact ⟨_, rr_, by first | exact Kd.R_nil _ _ _ _ _ | exact Kd.N_nil _ _ _ _ _ | exact Kd.V_nil _ _ _ _ _ | exact Kd.Q_nil _ _ _ _ _ | exact Kd.S_nil _ _ _ _ _, bq0_⟩
 rw [if_neg c2] at H
 have c2b0 := decide_eq_false c2
 have c2b1 : decide (40 < l0.length) = false := decide_eq_false (by omega)
 clear c2
 obtain ⟨y420, hy420⟩ : ∃ y_ : List (S45), y_ = (([] : List (S45))) := ⟨_, rfl⟩
 replace H : (impl_RecordsOf.l0 k l0 y420 l0 (l0.length : Int) 0) = some (r1, r2) := by first | (rw [hy420]; with_reducible exact H) | (have H2_ := (Option.bind_some _ _).symm.trans H; rw [hy420]; with_reducible exact H2_) | (have H2_ := (Option.bind_some _ _).symm.trans H; with_reducible exact H2_) | with_reducible exact H | (rw [hy420]; exact H) | exact H
 have Ny420 := a0_ hy420
 clear hy420
 have H' := a0_ H
 clear H
 go_enter Tryz.func15, Tryz.ntmps15
 go_wp2_with (first | ((with_reducible refine gate_dst (N := 14) rfl ?_); (try (refine gate_guard (by rfl) ?_; dsimp only)); refine Kd.R_lit k45 _ 45 ?hg (N := 14) ?hd (xs := ([] : List (S45))) (inner := []) (ok := fun _ => True) (okp := fun _ => True) ?hr ?hp (fun _ hk => hk) trivial (Below.refl _ _) (Nat.le_refl _) (by simp) ?_; (case hd => rfl); (case hg => rfl); (case hr => first | (go_simp; done) | (go_simp; rfl)); (case hp => exact (Reps.none _ _)); intro v421 w3 ho4 hb hg_ hnew_; clear hg_ hnew_; (first | rw [← Ny420.out] at ho4 | (simp only [Int.reduceToNat] at ho4; rw [← Ny420.out] at ho4)); have HO422 := a0_ (Kd.R_lower ho4 (below_size bq0_)); replace HB := a0_ (below_step bq0_ hb); clear hb ho4))
 go_loopg [4, 17] k (fun kq v4 v17 w' => ∃ (x4_1 : List (S45)) (x17_1 : Int), v17 = .int .i64 x17_1 ∧ Aside0 (impl_RecordsOf.l0 kq l0 x4_1 l0 (l0.length : Int) x17_1 = some (r1, r2)) ∧ Aside0 (kq ≤ k) ∧ Aside0 (Kd.R k45 45 w' w.heap.size (fun _ => True) v4 x4_1) ∧ Aside0 (Below w.heap.size w w'))
 case atStart => exact ⟨(y420), (0), rs_, H', ⟨Nat.le_refl _⟩, ⟨by (with_reducible repeat (first | apply Kd.R_alloc | apply Kd.R_drewN | apply Kd.R_drew)); exact HO422.out⟩, ⟨bq0_⟩⟩
 case round =>
  clear H'
  try clear c2
  try clear c2b0
  try clear c2b1
  obtain ⟨x4_1, x17_1, rfl, HA, HK1, HO_4, HB⟩ := hrel
  cases gk with
  | zero => exact absurd HA.out (by simp [impl_RecordsOf.l0])
  | succ k1 =>
   have H := HA.out
   clear HA
   simp only [impl_RecordsOf.l0] at H
   by_cases c5 : x17_1 < (l0.length : Int)
   case neg =>
    rw [if_neg c5] at H
    have c5b0 := decide_eq_false c5
    clear c5
    simp only [Option.some.injEq, Prod.mk.injEq] at H
    obtain ⟨rfl, rfl⟩ := H
    go_wp2
    go_ret2
    exact ⟨_, rr_, by (with_reducible repeat (first | apply Kd.R_alloc | apply Kd.R_drewN | apply Kd.R_drew)); exact HO_4.out, bq0_⟩
   rw [if_pos c5] at H
   have c5b0 := decide_eq_true c5
   clear c5
   by_cases c6 : 0 ≤ x17_1
   case neg =>
    rw [if_neg c6] at H
    exact absurd H (by simp)
   rw [if_pos c6] at H
   have c6b0 := decide_eq_true c6
   clear c6
   by_cases c7 : x17_1 < (l0.length : Int)
   case neg =>
    rw [if_neg c7] at H
    exact absurd H (by simp)
   rw [if_pos c7] at H
   have c7b0 := decide_eq_true c7
   clear c7
   have HC8 := a0_ H
   clear H
   have p423 : 0 ≤ (x17_1 : Int) := dec_
   have q423 : x17_1 < (l0.length : Int) := dec_
   obtain ⟨ad423, A423_3, c423_3, e423, hx423_0, hx423_1, hx423_2, hx423_3, hl423_3, hi423_3⟩ := at_T83 HR0.out x17_1 p423 q423
   cases e423
   obtain ⟨hx423_0, hx423_1, hx423_2, hx423_3⟩ := up4_ HB.out hx423_0 hx423_1 hx423_2 hx423_3
   have HR423_3 := a0_ hi423_3
   have HC423_3 := a0_ hl423_3
   clear hi423_3 hl423_3
   replace p423 := eq_true p423
   replace q423 := eq_true q423
   go_upto_region 8 with (first | ((with_reducible refine gate_dst (N := 6) rfl ?_); (try (refine gate_guard (by rfl) ?_; dsimp only)); refine boxS_ 6 #[.string (⟨#[]⟩ : ByteArray), .int .i64 0, .int .i64 0, .slice none 0 0] 83 (fun gb424 hg w9 hbox hb => ?_); have n0_ := a0_ (Kd.R_below (kR_ HO_4.out) hb); have n1_ := a0_ (below_step bq0_ hb); have n2_ := a0_ (hbox); have n3_ := a0_ (gw_ hg : w.heap.size ≤ gb424); have n4_ := n3_; clear HO_4; clear HB; have HO_4 := n0_; have HB := n1_; have BK424 := n2_; have GW424 := n3_; have GE424 := n4_; clear n0_ n1_ n2_ n3_ n4_; clear hb hbox hg; obtain ⟨z10_0, z10_1, z10_2, z10_3, q10_0, q10_1, q10_2, q10_3⟩ := bk4_ BK424.out) | ((with_reducible refine gate_dst (N := 7) rfl ?_); (try (refine gate_guard (by rfl) ?_; dsimp only)); refine boxS_ 7 #[.string (⟨#[]⟩ : ByteArray), .int .i64 0, .int .i64 0, .string (⟨#[]⟩ : ByteArray)] 45 (fun gb425 hg w11 hbox hb => ?_); have n0_ := a0_ (Kd.R_below (Kd.R_elderB (kR_ (farR4_ HO_4.out BK424.out)) gb425 (Nat.le_of_eq hg.symm)) hb); have n1_ := a0_ (blk_below (g := gb424) (o := .cells #[.string ((rd_T83 l0 x17_1).f0), .int .i64 ((rd_T83 l0 x17_1).f1), .int .i64 ((rd_T83 l0 x17_1).f2), .slice A423_3 ((rd_T83 l0 x17_1).f3).length c423_3] 83 (0, 0)) (put4_ BK424.out) hb); have n2_ := a0_ (below_step bq1_ hb); have n3_ := a0_ (hbox); have n4_ := a0_ (gw_ hg (below_size bq1_) : w.heap.size ≤ gb425); have n5_ := n4_; have n6_ := a0_ ((by rw [hg]; exact Nat.ne_of_lt (blk_lt (g := gb424) (o := .cells #[.string ((rd_T83 l0 x17_1).f0), .int .i64 ((rd_T83 l0 x17_1).f1), .int .i64 ((rd_T83 l0 x17_1).f2), .slice A423_3 ((rd_T83 l0 x17_1).f3).length c423_3] 83 (0, 0)) (put4_ BK424.out)) : gb424 ≠ gb425)); have n7_ := a0_ ((by rw [hg]; exact Nat.ne_of_gt (blk_lt (g := gb424) (o := .cells #[.string ((rd_T83 l0 x17_1).f0), .int .i64 ((rd_T83 l0 x17_1).f1), .int .i64 ((rd_T83 l0 x17_1).f2), .slice A423_3 ((rd_T83 l0 x17_1).f3).length c423_3] 83 (0, 0)) (put4_ BK424.out)) : gb425 ≠ gb424)); clear HO_4; clear BK424; clear HB; have HO_4 := n0_; have BK424 := n1_; have HB := n2_; have BK425 := n3_; have GW425 := n4_; have GE425 := n5_; have NB424_425 := n6_; have NB425_424 := n7_; clear n0_ n1_ n2_ n3_ n4_ n5_ n6_ n7_; clear hb hbox hg; have hnb12 := NB425_424.out; have hnc12 := NB424_425.out; obtain ⟨z13_0, z13_1, z13_2, z13_3, q13_0, q13_1, q13_2, q13_3⟩ := bk4_ BK425.out))
   (try simp only [Act.put, List.setIfInBounds_toArray, List.set_cons_zero, List.set_cons_succ])
   go_cut [61] (fun v61 wc => ∃ (kq : Nat) (x61_7 : Bool), v61 = .bool x61_7 ∧ Aside0 (impl_RecordsOf.j1 kq l0 x4_1 l0 (l0.length : Int) x17_1 x61_7 ((rd_T83 l0 x17_1).f0) ((rd_T83 l0 x17_1).f1) ((rd_T83 l0 x17_1).f2) ((rd_T83 l0 x17_1).f3) = some (r1, r2)) ∧ Aside0 (kq ≤ k1) ∧ Aside0 (Kd.R k45 45 wc w.heap.size (fun k_ => k_ ≠ gb425) u4 x4_1) ∧ Aside0 (wc.heap[gb424]? = some (.cells #[.string ((rd_T83 l0 x17_1).f0), .int .i64 ((rd_T83 l0 x17_1).f1), .int .i64 ((rd_T83 l0 x17_1).f2), (.slice A423_3 ((rd_T83 l0 x17_1).f3).length c423_3)] 83 (0, 0))) ∧ Aside0 (wc.heap[gb425]? = some (.cells #[.string ((rd_T83 l0 x17_1).f0), .int .i64 ((rd_T83 l0 x17_1).f1), .int .i64 0, .string (⟨#[]⟩ : ByteArray)] 45 (0, 0))) ∧ Aside0 (Below w.heap.size w wc))
   case first =>
    have H := HC8.out
    clear HC8
    by_cases c14 : (((rd_T83 l0 x17_1).f3).length : Int) = 0
    case pos =>
     rw [if_pos c14] at H
     have c14b0 := beq_iff_eq.mpr c14
     have c14b1 := bne_eq_false_iff_eq.mpr c14
     clear c14
     (first | rw [c14b0] | (simp only [i64_w, i32_w]; rw [c14b0]) | skip)
     have H' := a0_ H
     clear H
     try go_wp2
     have n0_ : Aside0 (Kd.R k45 45 ((((w11.setCell ⟨gb425, 0, none⟩ (.string ((rd_T83 l0 x17_1).f0))).setCell ⟨gb425, 1, none⟩ (.int .i64 ((rd_T83 l0 x17_1).f1))).setCell ⟨gb425, 2, none⟩ (.int .i64 0)).setCell ⟨gb425, 3, none⟩ (.string (⟨#[]⟩ : ByteArray))) w.heap.size (fun k_ => k_ ≠ gb425) u4 x4_1) := ⟨by (with_reducible repeat (first | apply Kd.R_alloc | apply Kd.R_drewN | apply Kd.R_drew)); exact Kd.R_mono (Kd.R_far (p := ⟨gb425, 3, none⟩) (Kd.R_far (p := ⟨gb425, 2, none⟩) (Kd.R_far (p := ⟨gb425, 1, none⟩) (Kd.R_far (p := ⟨gb425, 0, none⟩) (Kd.R_mono HO_4.out (fun k_ hk => (⟨hk, hk.2⟩ : _ ∧ k_ ≠ gb425))) (fun _ hk => hk.2) (.string ((rd_T83 l0 x17_1).f0))) (fun _ hk => hk.2) (.int .i64 ((rd_T83 l0 x17_1).f1))) (fun _ hk => hk.2) (.int .i64 0)) (fun _ hk => hk.2) (.string (⟨#[]⟩ : ByteArray))) (fun _ hk => hk.1.2)⟩
     have n1_ : Aside0 (((((w11.setCell ⟨gb425, 0, none⟩ (.string ((rd_T83 l0 x17_1).f0))).setCell ⟨gb425, 1, none⟩ (.int .i64 ((rd_T83 l0 x17_1).f1))).setCell ⟨gb425, 2, none⟩ (.int .i64 0)).setCell ⟨gb425, 3, none⟩ (.string (⟨#[]⟩ : ByteArray))).heap[gb424]? = some (.cells #[.string ((rd_T83 l0 x17_1).f0), .int .i64 ((rd_T83 l0 x17_1).f1), .int .i64 ((rd_T83 l0 x17_1).f2), .slice A423_3 ((rd_T83 l0 x17_1).f3).length c423_3] 83 (0, 0))) := ⟨bfar4_ NB424_425.out BK424.out⟩
     have n2_ : Aside0 (((((w11.setCell ⟨gb425, 0, none⟩ (.string ((rd_T83 l0 x17_1).f0))).setCell ⟨gb425, 1, none⟩ (.int .i64 ((rd_T83 l0 x17_1).f1))).setCell ⟨gb425, 2, none⟩ (.int .i64 0)).setCell ⟨gb425, 3, none⟩ (.string (⟨#[]⟩ : ByteArray))).heap[gb425]? = some (.cells #[.string ((rd_T83 l0 x17_1).f0), .int .i64 ((rd_T83 l0 x17_1).f1), .int .i64 0, .string (⟨#[]⟩ : ByteArray)] 45 (0, 0))) := ⟨put4_ BK425.out⟩
     have n3_ : Aside0 (Below w.heap.size w ((((w11.setCell ⟨gb425, 0, none⟩ (.string ((rd_T83 l0 x17_1).f0))).setCell ⟨gb425, 1, none⟩ (.int .i64 ((rd_T83 l0 x17_1).f1))).setCell ⟨gb425, 2, none⟩ (.int .i64 0)).setCell ⟨gb425, 3, none⟩ (.string (⟨#[]⟩ : ByteArray)))) := ⟨bq1_⟩
     (try clear HO_4)
     (try clear BK424)
     (try clear BK425)
     (try clear HB)
     generalize ((((w11.setCell ⟨gb425, 0, none⟩ (.string ((rd_T83 l0 x17_1).f0))).setCell ⟨gb425, 1, none⟩ (.int .i64 ((rd_T83 l0 x17_1).f1))).setCell ⟨gb425, 2, none⟩ (.int .i64 0)).setCell ⟨gb425, 3, none⟩ (.string (⟨#[]⟩ : ByteArray))) = w15 at n0_ n1_ n2_ n3_ ⊢
     have HO_4 := n0_
     have BK424 := n1_
     have BK425 := n2_
     have HB := n3_
     clear n0_ n1_ n2_ n3_
     replace HO_4 := a0_ (Kd.R_drew HO_4.out)
     replace BK424 := a0_ (blk_drew BK424.out)
     replace BK425 := a0_ (blk_drew BK425.out)
     replace HB := a0_ (below_drew1 HB.out)
     refine start_ (n := 35) (S := fun w' => w'.cell? ⟨gb424, 0, none⟩ = some (.string ((rd_T83 l0 x17_1).f0)) ∧ w'.cell? ⟨gb424, 1, none⟩ = some (.int .i64 ((rd_T83 l0 x17_1).f1)) ∧ w'.cell? ⟨gb424, 2, none⟩ = some (.int .i64 ((rd_T83 l0 x17_1).f2)) ∧ w'.cell? ⟨gb424, 3, none⟩ = some (.slice A423_3 ((rd_T83 l0 x17_1).f3).length c423_3)) (ds := []) #[false, false, false, false, false, false, false, false, false, false, false, false, false, false, false, false, false, false, false, false, false, false, false, false, false, false, false, false, false, false, false, false, false, false, false] (by kernel_rfl) rfl rfl ⟨(blk_cell BK424.out 0).trans rfl, (blk_cell BK424.out 1).trans rfl, (blk_cell BK424.out 2).trans rfl, (blk_cell BK424.out 3).trans rfl⟩ (fun hHeld => ?_); refine with_tabW impl_RecordsOf.tab8 impl_RecordsOf.bits8 (fun HT_ HW_ => ?_)
     generalize w15.drew = w16 at HO_4 BK424 BK425 HB hHeld ⊢
     refine pureS_ 0 (some 27) ?_
     refine takeS_ 1 (some 28) ?_
     refine pureS_ 2 (some 29) ?_
     refine pureS_ 3 (some 30) ?_
     refine pureS_ 4 (some 31) ?_
     refine skipS_ 5 (some 32) ?_
     refine skipS_ 6 (some 33) ?_
     refine skipS_ 7 (some 34) ?_
     refine skipS_ 8 (some 35) ?_
     refine skipS_ 9 (some 36) ?_
     refine skipS_ 10 (some 37) ?_
     refine skipS_ 11 (some 38) ?_
     refine pureS_ 12 (some 39) ?_
     refine pureS_ 13 (some 40) ?_
     refine skipS_ 14 (some 41) ?_
     refine skipS_ 15 (some 42) ?_
     refine skipS_ 16 (some 43) ?_
     refine skipS_ 17 (some 44) ?_
     refine skipS_ 18 (some 45) ?_
     refine skipS_ 19 (some 46) ?_
     refine skipS_ 20 (some 47) ?_
     refine skipS_ 21 (some 48) ?_
     refine skipS_ 22 (some 49) ?_
     refine skipS_ 23 (some 50) ?_
     refine skipS_ 24 (some 51) ?_
     refine skipS_ 25 (some 52) ?_
     refine skipS_ 26 (some 53) ?_
     refine skipS_ 27 (some 54) ?_
     refine skipS_ 28 (some 55) ?_
     refine skipS_ 29 (some 56) ?_
     refine skipS_ 30 (some 57) ?_
     refine skipS_ 31 (some 58) ?_
     refine skipS_ 32 (some 59) ?_
     refine skipS_ 33 (some 60) ?_
     refine pureS_ 34 (some 61) ?_
     refine done_ (done_of HT_.out (by kernel_rfl)) ?_
     try go_wp2
     go_meet
     case rel => exact ⟨_, (true), rs_, H', ⟨by have := HK1.out; first | omega | exact Nat.le_refl _⟩, ⟨by (with_reducible repeat (first | apply Kd.R_alloc | apply Kd.R_drewN | apply Kd.R_drew)); exact HO_4.out⟩, ⟨bz_⟩, ⟨bz_⟩, ⟨bq1_⟩⟩
    rw [if_neg c14] at H
    have c14b0 := beq_eq_false_iff_ne.mpr c14
    have c14b1 := bne_iff_ne.mpr c14
    have c14b2 : ¬ (((rd_T83 l0 x17_1).f3) = []) := fun h_ => c14 (by rw [h_]; rfl)
    (first | rw [c14b0] | (simp only [i64_w, i32_w]; rw [c14b0]) | skip)
    by_cases c17 : (wrap64 ((x4_1.length : Int) + (((rd_T83 l0 x17_1).f3).length : Int))) > 60
    case pos =>
     rw [if_pos c17] at H
     have c17b0 := decide_eq_true c17
     clear c17
     have H' := a0_ H
     clear H
     try go_wp2
     have n0_ : Aside0 (Kd.R k45 45 ((((w11.setCell ⟨gb425, 0, none⟩ (.string ((rd_T83 l0 x17_1).f0))).setCell ⟨gb425, 1, none⟩ (.int .i64 ((rd_T83 l0 x17_1).f1))).setCell ⟨gb425, 2, none⟩ (.int .i64 0)).setCell ⟨gb425, 3, none⟩ (.string (⟨#[]⟩ : ByteArray))) w.heap.size (fun k_ => k_ ≠ gb425) u4 x4_1) := ⟨by (with_reducible repeat (first | apply Kd.R_alloc | apply Kd.R_drewN | apply Kd.R_drew)); exact Kd.R_mono (Kd.R_far (p := ⟨gb425, 3, none⟩) (Kd.R_far (p := ⟨gb425, 2, none⟩) (Kd.R_far (p := ⟨gb425, 1, none⟩) (Kd.R_far (p := ⟨gb425, 0, none⟩) (Kd.R_mono HO_4.out (fun k_ hk => (⟨hk, hk.2⟩ : _ ∧ k_ ≠ gb425))) (fun _ hk => hk.2) (.string ((rd_T83 l0 x17_1).f0))) (fun _ hk => hk.2) (.int .i64 ((rd_T83 l0 x17_1).f1))) (fun _ hk => hk.2) (.int .i64 0)) (fun _ hk => hk.2) (.string (⟨#[]⟩ : ByteArray))) (fun _ hk => hk.1.2)⟩
     have n1_ : Aside0 (((((w11.setCell ⟨gb425, 0, none⟩ (.string ((rd_T83 l0 x17_1).f0))).setCell ⟨gb425, 1, none⟩ (.int .i64 ((rd_T83 l0 x17_1).f1))).setCell ⟨gb425, 2, none⟩ (.int .i64 0)).setCell ⟨gb425, 3, none⟩ (.string (⟨#[]⟩ : ByteArray))).heap[gb424]? = some (.cells #[.string ((rd_T83 l0 x17_1).f0), .int .i64 ((rd_T83 l0 x17_1).f1), .int .i64 ((rd_T83 l0 x17_1).f2), .slice A423_3 ((rd_T83 l0 x17_1).f3).length c423_3] 83 (0, 0))) := ⟨bfar4_ NB424_425.out BK424.out⟩
     have n2_ : Aside0 (((((w11.setCell ⟨gb425, 0, none⟩ (.string ((rd_T83 l0 x17_1).f0))).setCell ⟨gb425, 1, none⟩ (.int .i64 ((rd_T83 l0 x17_1).f1))).setCell ⟨gb425, 2, none⟩ (.int .i64 0)).setCell ⟨gb425, 3, none⟩ (.string (⟨#[]⟩ : ByteArray))).heap[gb425]? = some (.cells #[.string ((rd_T83 l0 x17_1).f0), .int .i64 ((rd_T83 l0 x17_1).f1), .int .i64 0, .string (⟨#[]⟩ : ByteArray)] 45 (0, 0))) := ⟨put4_ BK425.out⟩
     have n3_ : Aside0 (Below w.heap.size w ((((w11.setCell ⟨gb425, 0, none⟩ (.string ((rd_T83 l0 x17_1).f0))).setCell ⟨gb425, 1, none⟩ (.int .i64 ((rd_T83 l0 x17_1).f1))).setCell ⟨gb425, 2, none⟩ (.int .i64 0)).setCell ⟨gb425, 3, none⟩ (.string (⟨#[]⟩ : ByteArray)))) := ⟨bq1_⟩
     (try clear HO_4)
     (try clear BK424)
     (try clear BK425)
     (try clear HB)
     generalize ((((w11.setCell ⟨gb425, 0, none⟩ (.string ((rd_T83 l0 x17_1).f0))).setCell ⟨gb425, 1, none⟩ (.int .i64 ((rd_T83 l0 x17_1).f1))).setCell ⟨gb425, 2, none⟩ (.int .i64 0)).setCell ⟨gb425, 3, none⟩ (.string (⟨#[]⟩ : ByteArray))) = w18 at n0_ n1_ n2_ n3_ ⊢
     have HO_4 := n0_
     have BK424 := n1_
     have BK425 := n2_
     have HB := n3_
     clear n0_ n1_ n2_ n3_
     replace HO_4 := a0_ (Kd.R_drew HO_4.out)
     replace BK424 := a0_ (blk_drew BK424.out)
     replace BK425 := a0_ (blk_drew BK425.out)
     replace HB := a0_ (below_drew1 HB.out)
     obtain ⟨Ao20, co20, eo20⟩ := Kd.R_slice HO_4.out
     (first | subst eo20 | (injection eo20 with f1_ f2_ f3_; have f4_ := f1_.symm; have f5_ := f3_.symm; clear f1_ f2_ f3_; subst f4_; subst f5_))
     refine start_ (n := 35) (S := fun w' => w'.cell? ⟨gb424, 0, none⟩ = some (.string ((rd_T83 l0 x17_1).f0)) ∧ w'.cell? ⟨gb424, 1, none⟩ = some (.int .i64 ((rd_T83 l0 x17_1).f1)) ∧ w'.cell? ⟨gb424, 2, none⟩ = some (.int .i64 ((rd_T83 l0 x17_1).f2)) ∧ w'.cell? ⟨gb424, 3, none⟩ = some (.slice A423_3 ((rd_T83 l0 x17_1).f3).length c423_3)) (ds := []) #[false, false, false, false, false, false, false, false, false, false, false, false, false, false, false, false, false, false, false, false, false, false, false, false, false, false, false, false, false, false, false, false, false, false, false] (by kernel_rfl) rfl rfl ⟨(blk_cell BK424.out 0).trans rfl, (blk_cell BK424.out 1).trans rfl, (blk_cell BK424.out 2).trans rfl, (blk_cell BK424.out 3).trans rfl⟩ (fun hHeld => ?_); refine with_tabW impl_RecordsOf.tab8 impl_RecordsOf.bits8 (fun HT_ HW_ => ?_)
     generalize w18.drew = w19 at HO_4 BK424 BK425 HB hHeld ⊢
     refine pureS_ 0 (some 27) ?_
     refine takeS_ 1 (some 28) ?_
     refine pureS_ 2 (some 29) ?_
     refine pureS_ 3 (some 30) ?_
     refine pureS_ 4 (some 31) ?_
     refine pureS_ 5 (some 32) ?_
     refine pureS_ 6 (some 33) ?_
     refine pureS_ 7 (some 34) ?_
     refine takeS_ 8 (some 35) ?_
     refine pureS_ 9 (some 36) ?_
     refine pureS_ 10 (some 37) ?_
     refine pureS_ 11 (some 38) ?_
     refine pureS_ 12 (some 39) ?_
     refine pureS_ 13 (some 40) ?_
     refine skipS_ 14 (some 41) ?_
     refine skipS_ 15 (some 42) ?_
     refine skipS_ 16 (some 43) ?_
     refine skipS_ 17 (some 44) ?_
     refine skipS_ 18 (some 45) ?_
     refine skipS_ 19 (some 46) ?_
     refine skipS_ 20 (some 47) ?_
     refine skipS_ 21 (some 48) ?_
     refine skipS_ 22 (some 49) ?_
     refine skipS_ 23 (some 50) ?_
     refine skipS_ 24 (some 51) ?_
     refine skipS_ 25 (some 52) ?_
     refine skipS_ 26 (some 53) ?_
     refine skipS_ 27 (some 54) ?_
     refine skipS_ 28 (some 55) ?_
     refine skipS_ 29 (some 56) ?_
     refine skipS_ 30 (some 57) ?_
     refine skipS_ 31 (some 58) ?_
     refine skipS_ 32 (some 59) ?_
     refine skipS_ 33 (some 60) ?_
     refine pureS_ 34 (some 61) ?_
     refine done_ (done_of HT_.out (by kernel_rfl)) ?_
     try go_wp2
     go_meet
     case rel => exact ⟨_, (true), rs_, H', ⟨by have := HK1.out; first | omega | exact Nat.le_refl _⟩, ⟨by (with_reducible repeat (first | apply Kd.R_alloc | apply Kd.R_drewN | apply Kd.R_drew)); exact HO_4.out⟩, ⟨bz_⟩, ⟨bz_⟩, ⟨bq1_⟩⟩
    rw [if_neg c17] at H
    have c17b0 := decide_eq_false c17
    clear c17
    by_cases c21 : x17_1 > 0
    case neg =>
     rw [if_neg c21] at H
     have c21b0 := decide_eq_false c21
     clear c21
     have H' := a0_ H
     clear H
     try go_wp2
     have n0_ : Aside0 (Kd.R k45 45 ((((w11.setCell ⟨gb425, 0, none⟩ (.string ((rd_T83 l0 x17_1).f0))).setCell ⟨gb425, 1, none⟩ (.int .i64 ((rd_T83 l0 x17_1).f1))).setCell ⟨gb425, 2, none⟩ (.int .i64 0)).setCell ⟨gb425, 3, none⟩ (.string (⟨#[]⟩ : ByteArray))) w.heap.size (fun k_ => k_ ≠ gb425) u4 x4_1) := ⟨by (with_reducible repeat (first | apply Kd.R_alloc | apply Kd.R_drewN | apply Kd.R_drew)); exact Kd.R_mono (Kd.R_far (p := ⟨gb425, 3, none⟩) (Kd.R_far (p := ⟨gb425, 2, none⟩) (Kd.R_far (p := ⟨gb425, 1, none⟩) (Kd.R_far (p := ⟨gb425, 0, none⟩) (Kd.R_mono HO_4.out (fun k_ hk => (⟨hk, hk.2⟩ : _ ∧ k_ ≠ gb425))) (fun _ hk => hk.2) (.string ((rd_T83 l0 x17_1).f0))) (fun _ hk => hk.2) (.int .i64 ((rd_T83 l0 x17_1).f1))) (fun _ hk => hk.2) (.int .i64 0)) (fun _ hk => hk.2) (.string (⟨#[]⟩ : ByteArray))) (fun _ hk => hk.1.2)⟩
     have n1_ : Aside0 (((((w11.setCell ⟨gb425, 0, none⟩ (.string ((rd_T83 l0 x17_1).f0))).setCell ⟨gb425, 1, none⟩ (.int .i64 ((rd_T83 l0 x17_1).f1))).setCell ⟨gb425, 2, none⟩ (.int .i64 0)).setCell ⟨gb425, 3, none⟩ (.string (⟨#[]⟩ : ByteArray))).heap[gb424]? = some (.cells #[.string ((rd_T83 l0 x17_1).f0), .int .i64 ((rd_T83 l0 x17_1).f1), .int .i64 ((rd_T83 l0 x17_1).f2), .slice A423_3 ((rd_T83 l0 x17_1).f3).length c423_3] 83 (0, 0))) := ⟨bfar4_ NB424_425.out BK424.out⟩
     have n2_ : Aside0 (((((w11.setCell ⟨gb425, 0, none⟩ (.string ((rd_T83 l0 x17_1).f0))).setCell ⟨gb425, 1, none⟩ (.int .i64 ((rd_T83 l0 x17_1).f1))).setCell ⟨gb425, 2, none⟩ (.int .i64 0)).setCell ⟨gb425, 3, none⟩ (.string (⟨#[]⟩ : ByteArray))).heap[gb425]? = some (.cells #[.string ((rd_T83 l0 x17_1).f0), .int .i64 ((rd_T83 l0 x17_1).f1), .int .i64 0, .string (⟨#[]⟩ : ByteArray)] 45 (0, 0))) := ⟨put4_ BK425.out⟩
     have n3_ : Aside0 (Below w.heap.size w ((((w11.setCell ⟨gb425, 0, none⟩ (.string ((rd_T83 l0 x17_1).f0))).setCell ⟨gb425, 1, none⟩ (.int .i64 ((rd_T83 l0 x17_1).f1))).setCell ⟨gb425, 2, none⟩ (.int .i64 0)).setCell ⟨gb425, 3, none⟩ (.string (⟨#[]⟩ : ByteArray)))) := ⟨bq1_⟩
     (try clear HO_4)
     (try clear BK424)
     (try clear BK425)
     (try clear HB)
     generalize ((((w11.setCell ⟨gb425, 0, none⟩ (.string ((rd_T83 l0 x17_1).f0))).setCell ⟨gb425, 1, none⟩ (.int .i64 ((rd_T83 l0 x17_1).f1))).setCell ⟨gb425, 2, none⟩ (.int .i64 0)).setCell ⟨gb425, 3, none⟩ (.string (⟨#[]⟩ : ByteArray))) = w30 at n0_ n1_ n2_ n3_ ⊢
     have HO_4 := n0_
     have BK424 := n1_
     have BK425 := n2_
     have HB := n3_
     clear n0_ n1_ n2_ n3_
     replace HO_4 := a0_ (Kd.R_drew HO_4.out)
     replace BK424 := a0_ (blk_drew BK424.out)
     replace BK425 := a0_ (blk_drew BK425.out)
     replace HB := a0_ (below_drew1 HB.out)
     obtain ⟨Ao32, co32, eo32⟩ := Kd.R_slice HO_4.out
     (first | subst eo32 | (injection eo32 with f1_ f2_ f3_; have f4_ := f1_.symm; have f5_ := f3_.symm; clear f1_ f2_ f3_; subst f4_; subst f5_))
     refine start_ (n := 35) (S := fun w' => w'.cell? ⟨gb424, 0, none⟩ = some (.string ((rd_T83 l0 x17_1).f0)) ∧ w'.cell? ⟨gb424, 1, none⟩ = some (.int .i64 ((rd_T83 l0 x17_1).f1)) ∧ w'.cell? ⟨gb424, 2, none⟩ = some (.int .i64 ((rd_T83 l0 x17_1).f2)) ∧ w'.cell? ⟨gb424, 3, none⟩ = some (.slice A423_3 ((rd_T83 l0 x17_1).f3).length c423_3)) (ds := []) #[false, false, false, false, false, false, false, false, false, false, false, false, false, false, false, false, false, false, false, false, false, false, false, false, false, false, false, false, false, false, false, false, false, false, false] (by kernel_rfl) rfl rfl ⟨(blk_cell BK424.out 0).trans rfl, (blk_cell BK424.out 1).trans rfl, (blk_cell BK424.out 2).trans rfl, (blk_cell BK424.out 3).trans rfl⟩ (fun hHeld => ?_); refine with_tabW impl_RecordsOf.tab8 impl_RecordsOf.bits8 (fun HT_ HW_ => ?_)
     generalize w30.drew = w31 at HO_4 BK424 BK425 HB hHeld ⊢
     refine pureS_ 0 (some 27) ?_
     refine takeS_ 1 (some 28) ?_
     refine pureS_ 2 (some 29) ?_
     refine pureS_ 3 (some 30) ?_
     refine pureS_ 4 (some 31) ?_
     refine pureS_ 5 (some 32) ?_
     refine pureS_ 6 (some 33) ?_
     refine pureS_ 7 (some 34) ?_
     refine takeS_ 8 (some 35) ?_
     refine pureS_ 9 (some 36) ?_
     refine pureS_ 10 (some 37) ?_
     refine pureS_ 11 (some 38) ?_
     refine pureS_ 12 (some 39) ?_
     refine pureS_ 13 (some 40) ?_
     refine pureS_ 14 (some 41) ?_
     refine pureS_ 15 (some 42) ?_
     refine pureS_ 16 (some 43) ?_
     refine skipS_ 17 (some 44) ?_
     refine skipS_ 18 (some 45) ?_
     refine skipS_ 19 (some 46) ?_
     refine skipS_ 20 (some 47) ?_
     refine skipS_ 21 (some 48) ?_
     refine skipS_ 22 (some 49) ?_
     refine skipS_ 23 (some 50) ?_
     refine skipS_ 24 (some 51) ?_
     refine skipS_ 25 (some 52) ?_
     refine skipS_ 26 (some 53) ?_
     refine skipS_ 27 (some 54) ?_
     refine skipS_ 28 (some 55) ?_
     refine skipS_ 29 (some 56) ?_
     refine skipS_ 30 (some 57) ?_
     refine skipS_ 31 (some 58) ?_
     refine skipS_ 32 (some 59) ?_
     refine pureS_ 33 (some 60) ?_
     refine pureS_ 34 (some 61) ?_
     refine done_ (done_of HT_.out (by kernel_rfl)) ?_
     try go_wp2
     go_meet
     case rel => exact ⟨_, (false), rs_, H', ⟨by have := HK1.out; first | omega | exact Nat.le_refl _⟩, ⟨by (with_reducible repeat (first | apply Kd.R_alloc | apply Kd.R_drewN | apply Kd.R_drew)); exact HO_4.out⟩, ⟨bz_⟩, ⟨bz_⟩, ⟨bq1_⟩⟩
    rw [if_pos c21] at H
    have c21b0 := decide_eq_true c21
    clear c21
    obtain ⟨ji22, hji22⟩ : ∃ j_ : Int, (wrap64 (x17_1 - 1)) = j_ := ⟨_, rfl⟩
    (first | rw [hji22] at H | simp only [hji22] at H)
    have hji22w : (IntKind.i64.wrap (x17_1 - 1)) = ji22 := (i64_w _).trans hji22
    by_cases c23 : 0 ≤ (ji22)
    case neg =>
     rw [if_neg c23] at H
     exact absurd H (by simp)
    rw [if_pos c23] at H
    have c23b0 := decide_eq_true c23
    clear c23
    by_cases c24 : (ji22) < (l0.length : Int)
    case neg =>
     rw [if_neg c24] at H
     exact absurd H (by simp)
    rw [if_pos c24] at H
    have c24b0 := decide_eq_true c24
    clear c24
    obtain ⟨t428, A250, H⟩ := Option.bind_eq_some_iff.mp H
    have A25 := a0_ A250
    clear A250
    have H' := a0_ H
    clear H
    try go_wp2
    have n0_ : Aside0 (Kd.R k45 45 ((((w11.setCell ⟨gb425, 0, none⟩ (.string ((rd_T83 l0 x17_1).f0))).setCell ⟨gb425, 1, none⟩ (.int .i64 ((rd_T83 l0 x17_1).f1))).setCell ⟨gb425, 2, none⟩ (.int .i64 0)).setCell ⟨gb425, 3, none⟩ (.string (⟨#[]⟩ : ByteArray))) w.heap.size (fun k_ => k_ ≠ gb425) u4 x4_1) := ⟨by (with_reducible repeat (first | apply Kd.R_alloc | apply Kd.R_drewN | apply Kd.R_drew)); exact Kd.R_mono (Kd.R_far (p := ⟨gb425, 3, none⟩) (Kd.R_far (p := ⟨gb425, 2, none⟩) (Kd.R_far (p := ⟨gb425, 1, none⟩) (Kd.R_far (p := ⟨gb425, 0, none⟩) (Kd.R_mono HO_4.out (fun k_ hk => (⟨hk, hk.2⟩ : _ ∧ k_ ≠ gb425))) (fun _ hk => hk.2) (.string ((rd_T83 l0 x17_1).f0))) (fun _ hk => hk.2) (.int .i64 ((rd_T83 l0 x17_1).f1))) (fun _ hk => hk.2) (.int .i64 0)) (fun _ hk => hk.2) (.string (⟨#[]⟩ : ByteArray))) (fun _ hk => hk.1.2)⟩
    have n1_ : Aside0 (((((w11.setCell ⟨gb425, 0, none⟩ (.string ((rd_T83 l0 x17_1).f0))).setCell ⟨gb425, 1, none⟩ (.int .i64 ((rd_T83 l0 x17_1).f1))).setCell ⟨gb425, 2, none⟩ (.int .i64 0)).setCell ⟨gb425, 3, none⟩ (.string (⟨#[]⟩ : ByteArray))).heap[gb424]? = some (.cells #[.string ((rd_T83 l0 x17_1).f0), .int .i64 ((rd_T83 l0 x17_1).f1), .int .i64 ((rd_T83 l0 x17_1).f2), .slice A423_3 ((rd_T83 l0 x17_1).f3).length c423_3] 83 (0, 0))) := ⟨bfar4_ NB424_425.out BK424.out⟩
    have n2_ : Aside0 (((((w11.setCell ⟨gb425, 0, none⟩ (.string ((rd_T83 l0 x17_1).f0))).setCell ⟨gb425, 1, none⟩ (.int .i64 ((rd_T83 l0 x17_1).f1))).setCell ⟨gb425, 2, none⟩ (.int .i64 0)).setCell ⟨gb425, 3, none⟩ (.string (⟨#[]⟩ : ByteArray))).heap[gb425]? = some (.cells #[.string ((rd_T83 l0 x17_1).f0), .int .i64 ((rd_T83 l0 x17_1).f1), .int .i64 0, .string (⟨#[]⟩ : ByteArray)] 45 (0, 0))) := ⟨put4_ BK425.out⟩
    have n3_ : Aside0 (Below w.heap.size w ((((w11.setCell ⟨gb425, 0, none⟩ (.string ((rd_T83 l0 x17_1).f0))).setCell ⟨gb425, 1, none⟩ (.int .i64 ((rd_T83 l0 x17_1).f1))).setCell ⟨gb425, 2, none⟩ (.int .i64 0)).setCell ⟨gb425, 3, none⟩ (.string (⟨#[]⟩ : ByteArray)))) := ⟨bq1_⟩
    (try clear HO_4)
    (try clear BK424)
    (try clear BK425)
    (try clear HB)
    generalize ((((w11.setCell ⟨gb425, 0, none⟩ (.string ((rd_T83 l0 x17_1).f0))).setCell ⟨gb425, 1, none⟩ (.int .i64 ((rd_T83 l0 x17_1).f1))).setCell ⟨gb425, 2, none⟩ (.int .i64 0)).setCell ⟨gb425, 3, none⟩ (.string (⟨#[]⟩ : ByteArray))) = w26 at n0_ n1_ n2_ n3_ ⊢
    have HO_4 := n0_
    have BK424 := n1_
    have BK425 := n2_
    have HB := n3_
    clear n0_ n1_ n2_ n3_
    replace HO_4 := a0_ (Kd.R_drew HO_4.out)
    replace BK424 := a0_ (blk_drew BK424.out)
    replace BK425 := a0_ (blk_drew BK425.out)
    replace HB := a0_ (below_drew1 HB.out)
    obtain ⟨Ao28, co28, eo28⟩ := Kd.R_slice HO_4.out
    (first | subst eo28 | (injection eo28 with f1_ f2_ f3_; have f4_ := f1_.symm; have f5_ := f3_.symm; clear f1_ f2_ f3_; subst f4_; subst f5_))
    have p426 : 0 ≤ ((ji22) : Int) := dec_
    have q426 : (ji22) < (l0.length : Int) := dec_
    obtain ⟨ad426, A426_3, c426_3, e426, hx426_0, hx426_1, hx426_2, hx426_3, hl426_3, hi426_3⟩ := at_T83 HR0.out (ji22) p426 q426
    have hw426_3 := hx426_3
    have hw426_2 := hx426_2
    have hw426_1 := hx426_1
    have hw426_0 := hx426_0
    obtain rfl : ad423 = ad426 := (by injection e426)
    obtain ⟨hx426_0, hx426_1, hx426_2, hx426_3⟩ := up4_ HB.out hx426_0 hx426_1 hx426_2 hx426_3
    have HR426_3 := a0_ hi426_3
    have HC426_3 := a0_ hl426_3
    clear hi426_3 hl426_3
    replace p426 := eq_true p426
    replace q426 := eq_true q426
    have p427 : 0 ≤ ((ji22) : Int) := dec_
    have q427 : (ji22) < (l0.length : Int) := dec_
    obtain ⟨ad427, A427_3, c427_3, e427, hx427_0, hx427_1, hx427_2, hx427_3, hl427_3, hi427_3⟩ := at_T83 HR0.out (ji22) p427 q427
    have hw427_3 := hx427_3
    have hw427_2 := hx427_2
    have hw427_1 := hx427_1
    have hw427_0 := hx427_0
    obtain rfl : ad423 = ad427 := (by injection e427)
    obtain ⟨hx427_0, hx427_1, hx427_2, hx427_3⟩ := up4_ HB.out hx427_0 hx427_1 hx427_2 hx427_3
    have HR427_3 := a0_ hi427_3
    have HC427_3 := a0_ hl427_3
    clear hi427_3 hl427_3
    replace p427 := eq_true p427
    replace q427 := eq_true q427
    have ea_ := Option.some.inj (hx426_3.symm.trans hx427_3)
    injection ea_ with ea_ en_ ec_
    subst ea_
    subst ec_
    clear en_
    refine start_ (n := 35) (S := fun w' => w'.cell? ⟨gb424, 0, none⟩ = some (.string ((rd_T83 l0 x17_1).f0)) ∧ w'.cell? ⟨gb424, 1, none⟩ = some (.int .i64 ((rd_T83 l0 x17_1).f1)) ∧ w'.cell? ⟨gb424, 2, none⟩ = some (.int .i64 ((rd_T83 l0 x17_1).f2)) ∧ w'.cell? ⟨gb424, 3, none⟩ = some (.slice A423_3 ((rd_T83 l0 x17_1).f3).length c423_3) ∧ w'.cell? ⟨gb425, 0, none⟩ = some (.string ((rd_T83 l0 x17_1).f0)) ∧ w'.cell? ⟨gb425, 1, none⟩ = some (.int .i64 ((rd_T83 l0 x17_1).f1)) ∧ w'.cell? ⟨gb425, 2, none⟩ = some (.int .i64 0) ∧ w'.cell? ⟨gb425, 3, none⟩ = some (.string (⟨#[]⟩ : ByteArray)) ∧ w'.cell? (ad423.add (((ji22)).toNat * 4)) = some (.string ((rd_T83 l0 (ji22)).f0)) ∧ w'.cell? ⟨(ad423.add (((ji22)).toNat * 4)).block, (ad423.add (((ji22)).toNat * 4)).off + 1, none⟩ = some (.int .i64 ((rd_T83 l0 (ji22)).f1)) ∧ w'.cell? ⟨(ad423.add (((ji22)).toNat * 4)).block, (ad423.add (((ji22)).toNat * 4)).off + 2, none⟩ = some (.int .i64 ((rd_T83 l0 (ji22)).f2)) ∧ w'.cell? ⟨(ad423.add (((ji22)).toNat * 4)).block, (ad423.add (((ji22)).toNat * 4)).off + 3, none⟩ = some (.slice A426_3 ((rd_T83 l0 (ji22)).f3).length c426_3) ∧ w'.cell? (ad423.add (((ji22)).toNat * 4)) = some (.string ((rd_T83 l0 (ji22)).f0)) ∧ w'.cell? ⟨(ad423.add (((ji22)).toNat * 4)).block, (ad423.add (((ji22)).toNat * 4)).off + 1, none⟩ = some (.int .i64 ((rd_T83 l0 (ji22)).f1)) ∧ w'.cell? ⟨(ad423.add (((ji22)).toNat * 4)).block, (ad423.add (((ji22)).toNat * 4)).off + 2, none⟩ = some (.int .i64 ((rd_T83 l0 (ji22)).f2)) ∧ w'.cell? ⟨(ad423.add (((ji22)).toNat * 4)).block, (ad423.add (((ji22)).toNat * 4)).off + 3, none⟩ = some (.slice A426_3 ((rd_T83 l0 (ji22)).f3).length c426_3)) (ds := []) #[false, false, false, false, false, false, false, false, false, false, false, false, false, false, false, false, false, false, false, false, false, false, false, false, false, false, false, false, false, false, false, false, false, false, false] (by kernel_rfl) rfl rfl ⟨(blk_cell BK424.out 0).trans rfl, (blk_cell BK424.out 1).trans rfl, (blk_cell BK424.out 2).trans rfl, (blk_cell BK424.out 3).trans rfl, (blk_cell BK425.out 0).trans rfl, (blk_cell BK425.out 1).trans rfl, (blk_cell BK425.out 2).trans rfl, (blk_cell BK425.out 3).trans rfl, ((HB.out.cell (World.block_lt_of_cell? w _ hw426_0)).trans hw426_0), ((HB.out.cell (World.block_lt_of_cell? w _ hw426_1)).trans hw426_1), ((HB.out.cell (World.block_lt_of_cell? w _ hw426_2)).trans hw426_2), ((HB.out.cell (World.block_lt_of_cell? w _ hw426_3)).trans hw426_3), ((HB.out.cell (World.block_lt_of_cell? w _ hw427_0)).trans hw427_0), ((HB.out.cell (World.block_lt_of_cell? w _ hw427_1)).trans hw427_1), ((HB.out.cell (World.block_lt_of_cell? w _ hw427_2)).trans hw427_2), ((HB.out.cell (World.block_lt_of_cell? w _ hw427_3)).trans hw427_3)⟩ (fun hHeld => ?_); refine with_tabW impl_RecordsOf.tab8 impl_RecordsOf.bits8 (fun HT_ HW_ => ?_)
    generalize w26.drew = w27 at HO_4 BK424 BK425 HB HR426_3 HR427_3 hx426_0 hx426_1 hx426_2 hx426_3 hx427_0 hx427_1 hx427_2 hx427_3 hHeld ⊢
    refine pureS_ 0 (some 27) ?_
    refine takeS_ 1 (some 28) ?_
    refine pureS_ 2 (some 29) ?_
    refine pureS_ 3 (some 30) ?_
    refine pureS_ 4 (some 31) ?_
    refine pureS_ 5 (some 32) ?_
    refine pureS_ 6 (some 33) ?_
    refine pureS_ 7 (some 34) ?_
    refine takeS_ 8 (some 35) ?_
    refine pureS_ 9 (some 36) ?_
    refine pureS_ 10 (some 37) ?_
    refine pureS_ 11 (some 38) ?_
    refine pureS_ 12 (some 39) ?_
    refine pureS_ 13 (some 40) ?_
    refine pureS_ 14 (some 41) ?_
    refine pureS_ 15 (some 42) ?_
    refine pureS_ 16 (some 43) ?_
    refine pureS_ 17 (some 44) ?_
    refine pureS_ 18 (some 45) ?_
    refine pureS_ 19 (some 46) ?_
    refine pureS_ 20 (some 47) ?_
    refine pureS_ 21 (some 48) ?_
    refine pureS_ 23 (some 50) ?_
    refine pureS_ 24 (some 51) ?_
    refine pureS_ 25 (some 52) ?_
    refine pureS_ 26 (some 53) ?_
    refine pureS_ 27 (some 54) ?_
    refine takeS_ 22 (some 49) ?_
    refine takeS_ 28 (some 55) ?_
    refine pureS_ 29 (some 56) ?_
    refine takeS_ 30 (some 57) ?_
    refine oneS_ 31 (some 58) (fun K hK => ?_)
    refine goes_ Tryz.func65 (by kernel_rfl) rfl #[.agg #[.string ((rd_T83 l0 (ji22)).f0), .int .i64 ((rd_T83 l0 (ji22)).f1), .int .i64 0, .string (⟨#[]⟩ : ByteArray)], .agg #[.string ((rd_T83 l0 x17_1).f0), .int .i64 ((rd_T83 l0 x17_1).f1), .int .i64 0, .string (⟨#[]⟩ : ByteArray)]] (by rfl) rfl rfl (by (try simp only [List.map_toArray, List.map_cons, List.map_nil]); first | done | (simp only [hji22]; rfl) | rfl | (simp only [List.length_drop, List.length_take]; rfl)) ?_
    with_reducible refine (impl_compareKeys.calls k1 ((rd_T83 l0 (ji22)).f0) ((rd_T83 l0 (ji22)).f1) 0 (⟨#[]⟩ : ByteArray) ((rd_T83 l0 x17_1).f0) ((rd_T83 l0 x17_1).f1) 0 (⟨#[]⟩ : ByteArray) t428 _ A25.out).mono ?_
    rintro e w29 ⟨rfl, hb⟩
    refine ⟨_, rfl, ?_⟩
    replace HO_4 := a0_ (Kd.R_below (kR_ HO_4.out) hb)
    replace BK424 := a0_ (bkB_ BK424 hb)
    replace BK425 := a0_ (bkB_ BK425 hb)
    replace HB := a0_ (below_step bq1_ hb)
    (try clear hb)
    (try clear hb2)
    (try clear hk)
    (try clear hi)
    refine hK.out _ _ ⟨(blk_cell BK424.out 0).trans rfl, (blk_cell BK424.out 1).trans rfl, (blk_cell BK424.out 2).trans rfl, (blk_cell BK424.out 3).trans rfl, (blk_cell BK425.out 0).trans rfl, (blk_cell BK425.out 1).trans rfl, (blk_cell BK425.out 2).trans rfl, (blk_cell BK425.out 3).trans rfl, ((HB.out.cell (World.block_lt_of_cell? w _ hw426_0)).trans hw426_0), ((HB.out.cell (World.block_lt_of_cell? w _ hw426_1)).trans hw426_1), ((HB.out.cell (World.block_lt_of_cell? w _ hw426_2)).trans hw426_2), ((HB.out.cell (World.block_lt_of_cell? w _ hw426_3)).trans hw426_3), ((HB.out.cell (World.block_lt_of_cell? w _ hw427_0)).trans hw427_0), ((HB.out.cell (World.block_lt_of_cell? w _ hw427_1)).trans hw427_1), ((HB.out.cell (World.block_lt_of_cell? w _ hw427_2)).trans hw427_2), ((HB.out.cell (World.block_lt_of_cell? w _ hw427_3)).trans hw427_3)⟩ (fun hHeld => ?_)
    clear hK K
    refine normS_ ?_
    refine pureS_ 32 (some 59) ?_
    refine pureS_ 33 (some 60) ?_
    refine pureS_ 34 (some 61) ?_
    refine done_ (done_of HT_.out (by kernel_rfl)) ?_
    try go_wp2
    go_meet
    case rel => exact ⟨_, (decide (t428 ≥ 0)), rs_, H', ⟨by have := HK1.out; first | omega | exact Nat.le_refl _⟩, ⟨by (with_reducible repeat (first | apply Kd.R_alloc | apply Kd.R_drewN | apply Kd.R_drew)); exact HO_4.out⟩, ⟨bz_⟩, ⟨bz_⟩, ⟨bq1_⟩⟩
   case rest =>
    clear HC8
    try clear c2
    try clear p2
    try clear c6
    obtain ⟨kq, x61_7, rfl, HA, HJ7, HO_4, BK424, BK425, HB⟩ := hcut
    cases kq with
    | zero => exact absurd HA.out (by simp [impl_RecordsOf.j1])
    | succ kj7 =>
     have H := HA.out
     clear HA
     simp only [impl_RecordsOf.j1] at H
     by_cases c33 : x61_7 = true
     case pos =>
      subst c33
      rw [if_pos rfl] at H
      simp only [Option.some.injEq, Prod.mk.injEq] at H
      obtain ⟨rfl, rfl⟩ := H
      go_wp2
      go_ret2
      exact ⟨_, rr_, by first | exact Kd.R_nil _ _ _ _ _ | exact Kd.N_nil _ _ _ _ _ | exact Kd.V_nil _ _ _ _ _ | exact Kd.Q_nil _ _ _ _ _ | exact Kd.S_nil _ _ _ _ _, bq1_⟩
     replace c33 := Bool.eq_false_iff.mpr c33
     subst c33
     rw [if_neg (show ¬ (false = true) by decide)] at H
     have H' := a0_ H
     clear H
     obtain ⟨Ao34, co34, eo34⟩ := Kd.R_slice HO_4.out
     subst eo34
     have hnb35 := NB424_425.out
     have hnc35 := NB425_424.out
     obtain ⟨z36_0, z36_1, z36_2, z36_3, q36_0, q36_1, q36_2, q36_3⟩ := bk4_ BK424.out
     go_wp2
     go_loopg [4, 67] kj7 (fun kq v4 v67 w' => ∃ (x4_3 : List (S45)) (x67_3 : Int), v67 = .int .i64 x67_3 ∧ Aside0 (impl_RecordsOf.l1 kq l0 x4_3 (x4_1.length : Int) l0 (l0.length : Int) x17_1 ((rd_T83 l0 x17_1).f3) (((rd_T83 l0 x17_1).f3).length : Int) x67_3 ((rd_T83 l0 x17_1).f0) ((rd_T83 l0 x17_1).f1) ((rd_T83 l0 x17_1).f2) ((rd_T83 l0 x17_1).f3) = some (r1, r2)) ∧ Aside0 (kq ≤ kj7) ∧ Aside0 (Kd.R k45 45 w' w.heap.size (fun k_ => k_ ≠ gb425) v4 x4_3) ∧ Aside0 (w'.heap[gb424]? = some (.cells #[.string ((rd_T83 l0 x17_1).f0), .int .i64 ((rd_T83 l0 x17_1).f1), .int .i64 ((rd_T83 l0 x17_1).f2), (.slice A423_3 ((rd_T83 l0 x17_1).f3).length c423_3)] 83 (0, 0))) ∧ Aside0 (w'.heap[gb425]? = some (.cells #[.string ((rd_T83 l0 x17_1).f0), .int .i64 ((rd_T83 l0 x17_1).f1), .int .i64 0, .string (⟨#[]⟩ : ByteArray)] 45 (0, 0))) ∧ Aside0 (Below w.heap.size w w'))
     case atStart => exact ⟨(x4_1), (0), rs_, H', ⟨Nat.le_refl _⟩, ⟨by (with_reducible repeat (first | apply Kd.R_alloc | apply Kd.R_drewN | apply Kd.R_drew)); exact HO_4.out⟩, ⟨bz_⟩, ⟨bz_⟩, ⟨bq1_⟩⟩
     case round =>
      clear H'
      try clear c2
      try clear p2
      try clear c4
      try clear p4
      try clear q4
      try clear hx4
      try clear c6
      try clear c21
      try clear c21b0
      try clear c23
      try clear c24
      try clear c33
      try clear z36_0 z36_1 z36_2 z36_3 q36_0 q36_1 q36_2 q36_3
      try clear hx426_0
      try clear hx426_1
      try clear hx426_2
      try clear hx426_3
      try clear hx427_0
      try clear hx427_1
      try clear hx427_2
      try clear hx427_3
      try clear p2
      try clear p4
      try clear p426
      try clear p427
      try clear q4
      try clear q426
      try clear q427
      obtain ⟨x4_3, x67_3, rfl, HA, HK3, HO_4, BK424, BK425, HB⟩ := hrel
      cases gk with
      | zero => exact absurd HA.out (by simp [impl_RecordsOf.l1])
      | succ k3 =>
       have H := HA.out
       clear HA
       simp only [impl_RecordsOf.l1] at H
       by_cases c37 : x67_3 < (((rd_T83 l0 x17_1).f3).length : Int)
       case pos =>
        rw [if_pos c37] at H
        have c37b0 := decide_eq_true c37
        clear c37
        by_cases c38 : 0 ≤ x67_3
        case neg =>
         rw [if_neg c38] at H
         exact absurd H (by simp)
        rw [if_pos c38] at H
        have c38b0 := decide_eq_true c38
        clear c38
        by_cases c39 : x67_3 < (((rd_T83 l0 x17_1).f3).length : Int)
        case neg =>
         rw [if_neg c39] at H
         exact absurd H (by simp)
        rw [if_pos c39] at H
        have c39b0 := decide_eq_true c39
        clear c39
        by_cases c40 : x4_3.length < 2932031007402
        case neg =>
         rw [if_neg c40] at H
         exact absurd H (by simp)
        rw [if_pos c40] at H
        have LMc40 := a0_ c40
        clear c40
        obtain ⟨y430, hy430⟩ : ∃ y_ : List (S45), y_ = (x4_3 ++ [(⟨((rd_T83 l0 x17_1).f0), ((rd_T83 l0 x17_1).f1), ((rd_T83 l0 x17_1).f2), rdOf ByteArray.empty ((rd_T83 l0 x17_1).f3) x67_3⟩ : S45)]) := ⟨_, rfl⟩
        replace H : (impl_RecordsOf.l1 k3 l0 y430 (x4_1.length : Int) l0 (l0.length : Int) x17_1 ((rd_T83 l0 x17_1).f3) (((rd_T83 l0 x17_1).f3).length : Int) (wrap64 (x67_3 + 1)) ((rd_T83 l0 x17_1).f0) ((rd_T83 l0 x17_1).f1) ((rd_T83 l0 x17_1).f2) ((rd_T83 l0 x17_1).f3)) = some (r1, r2) := by first | (rw [hy430]; with_reducible exact H) | (have H2_ := (Option.bind_some _ _).symm.trans H; rw [hy430]; with_reducible exact H2_) | (have H2_ := (Option.bind_some _ _).symm.trans H; with_reducible exact H2_) | with_reducible exact H | (rw [hy430]; exact H) | exact H
        have Ny430 := a0_ hy430
        clear hy430
        have H' := a0_ H
        clear H
        have p429 : 0 ≤ (x67_3 : Int) := dec_
        have q429 : x67_3 < (((rd_T83 l0 x17_1).f3).length : Int) := dec_
        obtain ⟨ad429, e429, hx429_0⟩ := Kd.at_string HR423_3.out x67_3 p429 q429
        cases e429
        replace hx429_0 := (HB.out.cell (World.block_lt_of_cell? w _ hx429_0)).trans hx429_0
        replace p429 := eq_true p429
        replace q429 := eq_true q429
        have hnb41 := NB424_425.out
        have hnc41 := NB425_424.out
        obtain ⟨z42_0, z42_1, z42_2, z42_3, q42_0, q42_1, q42_2, q42_3⟩ := bk4_ BK424.out
        go_wp2_with (first | ((with_reducible refine gate_builtin (b := .append) (xs := #[.tmp 71, .tmp 80]) rfl ?_); (try (refine gate_guard (by rfl) ?_; dsimp only)); at_builtin; refine Kd.R_append k45 (w0 := w) w.heap.size rfl (.tmp 71) (.tmp 80) 27 45 (.agg #[(.string ⟨#[]⟩), (.int .i64 0), (.int .i64 0), (.string ⟨#[]⟩)]) 48 rfl Tryz.underlying27 info45 rfl (by decide) (by omega) u4 x4_3 (⟨((rd_T83 l0 x17_1).f0), ((rd_T83 l0 x17_1).f1), ((rd_T83 l0 x17_1).f2), rdOf ByteArray.empty ((rd_T83 l0 x17_1).f3) x67_3⟩ : S45) [.string ((rd_T83 l0 x17_1).f0), .int .i64 ((rd_T83 l0 x17_1).f1), .int .i64 ((rd_T83 l0 x17_1).f2), .string (rdOf ByteArray.empty ((rd_T83 l0 x17_1).f3) x67_3)] (fun k_ => k_ ≠ gb425) (fun _ => False) rfl rfl ?aP (fun _ hk => hk.elim) ?aF ?aO ?aB ?aS ?aL ?_; (case aP => exact k45_mkM _ _ _ (⟨((rd_T83 l0 x17_1).f0), ((rd_T83 l0 x17_1).f1), ((rd_T83 l0 x17_1).f2), rdOf ByteArray.empty ((rd_T83 l0 x17_1).f3) x67_3⟩ : S45)); (case aB => exact bq1_); (case aF => exact (fun k_ hk => Kd.freshB (g := gb425) (o := .cells #[.string ((rd_T83 l0 x17_1).f0), .int .i64 ((rd_T83 l0 x17_1).f1), .int .i64 0, .string (⟨#[]⟩ : ByteArray)] 45 (0, 0)) (kB_ BK425.out) k_ hk)); (case aO => exact (kR_ HO_4.out)); (case aS => exact (below_size bq1_)); (case aL => have := LMc40.out; omega); intro v431 w43 ho hb hg hat; rw [← Ny430.out] at ho; have n0_ := a0_ (blk_grown (g := gb424) (o := .cells #[.string ((rd_T83 l0 x17_1).f0), .int .i64 ((rd_T83 l0 x17_1).f1), .int .i64 ((rd_T83 l0 x17_1).f2), .slice (some ad429) ((rd_T83 l0 x17_1).f3).length c423_3] 83 (0, 0)) (kB_ BK424.out) hg (Kd.R_ne HO_4.out BK424.out (by decide))); have n1_ := a0_ (blk_grown (g := gb425) (o := .cells #[.string ((rd_T83 l0 x17_1).f0), .int .i64 ((rd_T83 l0 x17_1).f1), .int .i64 0, .string (⟨#[]⟩ : ByteArray)] 45 (0, 0)) (kB_ BK425.out) hg (Kd.R_away HO_4.out (fun _ hk => hk))); have n2_ := a0_ (hb); have n3_ := a0_ (ho); clear BK424; clear BK425; clear HB; clear HO_4; have BK424 := n0_; have BK425 := n1_; have HB := n2_; have HO432 := n3_; clear n0_ n1_ n2_ n3_; clear ho hb hg hat))
        go_roundg k3
        case measure => have := HK1.out; have := HJ7.out; have := HK3.out; omega
        case rel => exact ⟨(y430), (wrap64 (x67_3 + 1)), rs_, H', ⟨by have := HK1.out; have := HJ7.out; have := HK3.out; omega⟩, ⟨by (with_reducible repeat (first | apply Kd.R_alloc | apply Kd.R_drewN | apply Kd.R_drew)); exact HO432.out⟩, ⟨bz_⟩, ⟨bz_⟩, ⟨bq1_⟩⟩
       rw [if_neg c37] at H
       have c37b0 := decide_eq_false c37
       clear c37
       by_cases c44 : 0 ≤ (x4_1.length : Int)
       case neg =>
        rw [if_neg c44] at H
        exact absurd H (by simp)
       rw [if_pos c44] at H
       have c44b0 := eq_true c44
       have c44b1 := decide_eq_true c44
       clear c44
       by_cases c45 : (x4_1.length : Int) ≤ (x4_3.length : Int)
       case neg =>
        rw [if_neg c45] at H
        exact absurd H (by simp)
       rw [if_pos c45] at H
       have c45b0 := eq_true c45
       have c45b1 := decide_eq_true c45
       clear c45
       obtain ⟨y433, hy433⟩ : ∃ y_ : List (S45), y_ = (x4_3.drop ((x4_1.length : Int) : Int).toNat) := ⟨_, rfl⟩
       replace H : ((impl_areRising.f k3 y433).bind fun t437 => (if t437 = true then (impl_RecordsOf.l0 k3 l0 x4_3 l0 (l0.length : Int) (wrap64 (x17_1 + 1))) else (some (([] : List (S45)), false)))) = some (r1, r2) := by first | (rw [hy433]; with_reducible exact H) | (have H2_ := (Option.bind_some _ _).symm.trans H; rw [hy433]; with_reducible exact H2_) | (have H2_ := (Option.bind_some _ _).symm.trans H; with_reducible exact H2_) | with_reducible exact H | (rw [hy433]; exact H) | exact H
       have Ny433 := a0_ hy433
       clear hy433
       obtain ⟨t437, A460, H⟩ := Option.bind_eq_some_iff.mp H
       have A46 := a0_ A460
       clear A460
       by_cases c47 : t437 = true
       case neg =>
        replace c47 := Bool.eq_false_iff.mpr c47
        subst c47
        rw [if_neg (show ¬ (false = true) by decide)] at H
        simp only [Option.some.injEq, Prod.mk.injEq] at H
        obtain ⟨rfl, rfl⟩ := H
        obtain ⟨Ao52, co52, eo52⟩ := Kd.R_slice HO_4.out
        subst eo52
        have q51 : ((x4_1.length : Int) : Int) ≤ ((x4_3.length : Int) : Int) := dec_
        obtain ⟨i051, hi051, _, hsz51, _⟩ := info_parts info45
        have hroom51 : x4_3.length ≤ co52 := (Kd.R_reads' HO_4.out).2.1
        have hC51 : Kd.C k45 _ Ao52 x4_3.length x4_3 := (Kd.R_reads' HO_4.out).2.2
        have q051 : (0 : Int) ≤ ((x4_1.length : Int) : Int) := dec_
        have hcut51 := cut_from (P := Tryz.prog) 27 45 .i64 Tryz.underlying27 hi051 4 hsz51 Ao52 x4_3.length co52 (x4_1.length : Int) q051 q51
        have hr51 := Kd.C_drop (m := ((x4_1.length : Int) : Int).toNat) (c := co52) hC51 (by omega) hroom51
        obtain ⟨A51, hA51⟩ : ∃ A1, A1 = (if co52 = ((x4_1.length : Int) : Int).toNat then Ao52 else (Ao52 : Option Addr).map (·.add (((x4_1.length : Int) : Int).toNat * 4))) := ⟨_, rfl⟩
        obtain ⟨c51, hc51⟩ : ∃ c1, c1 = co52 - ((x4_1.length : Int) : Int).toNat := ⟨_, rfl⟩
        have hy51 : y433.length = x4_3.length - ((x4_1.length : Int) : Int).toNat := (by rw [Ny433.out, List.length_drop] <;> omega)
        rw [show (x4_3).drop ((x4_1.length : Int) : Int).toNat = y433 from Ny433.out.symm] at hr51
        replace hr51 : Kd.C k45 _ A51 y433.length y433 := (by rw [hA51]; exact hr51)
        rw [← hy51, ← hA51, ← hc51] at hcut51
        have HR436 := a0_ hr51
        have HC436 := a0_ (show y433.length ≤ c51 from by rw [hy51, hc51]; exact Nat.sub_le_sub_right hroom51 _)
        clear hr51 hC51 hroom51 hi051 hsz51 hc51
        have KY51 := a0_ hy51
        have KA51 := a0_ hA51
        clear hy51 hA51
        have KL51 := a0_ (show ((x4_1.length : Int) : Int).toNat ≤ x4_3.length from by omega)
        replace q51 := eq_true q51
        go_wp2_with (first | ((with_reducible refine gate_callee (f := 66) rfl ?_); refine goesL_ (some 86) rfl rfl Tryz.func66 (by kernel_rfl) rfl #[.slice A51 y433.length c51] rfl argsS_ ?_; (with_reducible refine (impl_areRising.calls k3 _ _ y433 false _ ?side1 ?side2 A46.out).mono ?_); (case side1 => repeat (first | exact (by repeat (first | (with_reducible exact HR436.out) | (with_reducible refine Kd.C_alloc ?_ _) | (with_reducible refine Kd.C_drewN ?_ _) | (with_reducible refine Kd.C_drew ?_) | exact HR436.out)) | (with_reducible refine Kd.C_alloc ?_ _) | (with_reducible refine Kd.C_drewN ?_ _) | (with_reducible refine Kd.C_drew ?_))); (case side2 => exact HC436.out); rintro e w53 ⟨rfl, hb⟩; refine ⟨_, rfl, ?_⟩; replace HO_4 := a0_ (Kd.R_below (kR_ HO_4.out) hb); replace BK424 := a0_ (bkB_ BK424 hb); replace BK425 := a0_ (bkB_ BK425 hb); replace HR436 := a0_ (Kd.C_below (by repeat (first | (with_reducible exact HR436.out) | (with_reducible refine Kd.C_alloc ?_ _) | (with_reducible refine Kd.C_drewN ?_ _) | (with_reducible refine Kd.C_drew ?_) | exact HR436.out)) hb); replace HB := a0_ (below_step bq1_ hb); clear hb))
        go_ret2
        exact ⟨_, rr_, by first | exact Kd.R_nil _ _ _ _ _ | exact Kd.N_nil _ _ _ _ _ | exact Kd.V_nil _ _ _ _ _ | exact Kd.Q_nil _ _ _ _ _ | exact Kd.S_nil _ _ _ _ _, bq1_⟩
       subst c47
       rw [if_pos rfl] at H
       have H' := a0_ H
       clear H
       obtain ⟨Ao49, co49, eo49⟩ := Kd.R_slice HO_4.out
       subst eo49
       have q48 : ((x4_1.length : Int) : Int) ≤ ((x4_3.length : Int) : Int) := dec_
       obtain ⟨i048, hi048, _, hsz48, _⟩ := info_parts info45
       have hroom48 : x4_3.length ≤ co49 := (Kd.R_reads' HO_4.out).2.1
       have hC48 : Kd.C k45 _ Ao49 x4_3.length x4_3 := (Kd.R_reads' HO_4.out).2.2
       have q048 : (0 : Int) ≤ ((x4_1.length : Int) : Int) := dec_
       have hcut48 := cut_from (P := Tryz.prog) 27 45 .i64 Tryz.underlying27 hi048 4 hsz48 Ao49 x4_3.length co49 (x4_1.length : Int) q048 q48
       have hr48 := Kd.C_drop (m := ((x4_1.length : Int) : Int).toNat) (c := co49) hC48 (by omega) hroom48
       obtain ⟨A48, hA48⟩ : ∃ A1, A1 = (if co49 = ((x4_1.length : Int) : Int).toNat then Ao49 else (Ao49 : Option Addr).map (·.add (((x4_1.length : Int) : Int).toNat * 4))) := ⟨_, rfl⟩
       obtain ⟨c48, hc48⟩ : ∃ c1, c1 = co49 - ((x4_1.length : Int) : Int).toNat := ⟨_, rfl⟩
       have hy48 : y433.length = x4_3.length - ((x4_1.length : Int) : Int).toNat := (by rw [Ny433.out, List.length_drop] <;> omega)
       rw [show (x4_3).drop ((x4_1.length : Int) : Int).toNat = y433 from Ny433.out.symm] at hr48
       replace hr48 : Kd.C k45 _ A48 y433.length y433 := (by rw [hA48]; exact hr48)
       rw [← hy48, ← hA48, ← hc48] at hcut48
       have HR436 := a0_ hr48
       have HC436 := a0_ (show y433.length ≤ c48 from by rw [hy48, hc48]; exact Nat.sub_le_sub_right hroom48 _)
       clear hr48 hC48 hroom48 hi048 hsz48 hc48
       have KY48 := a0_ hy48
       have KA48 := a0_ hA48
       clear hy48 hA48
       have KL48 := a0_ (show ((x4_1.length : Int) : Int).toNat ≤ x4_3.length from by omega)
       replace q48 := eq_true q48
       go_wp2_with (first | ((with_reducible refine gate_callee (f := 66) rfl ?_); refine goesL_ (some 86) rfl rfl Tryz.func66 (by kernel_rfl) rfl #[.slice A48 y433.length c48] rfl argsS_ ?_; (with_reducible refine (impl_areRising.calls k3 _ _ y433 true _ ?side1 ?side2 A46.out).mono ?_); (case side1 => repeat (first | exact (by repeat (first | (with_reducible exact HR436.out) | (with_reducible refine Kd.C_alloc ?_ _) | (with_reducible refine Kd.C_drewN ?_ _) | (with_reducible refine Kd.C_drew ?_) | exact HR436.out)) | (with_reducible refine Kd.C_alloc ?_ _) | (with_reducible refine Kd.C_drewN ?_ _) | (with_reducible refine Kd.C_drew ?_))); (case side2 => exact HC436.out); rintro e w50 ⟨rfl, hb⟩; refine ⟨_, rfl, ?_⟩; replace HO_4 := a0_ (Kd.R_below (kR_ HO_4.out) hb); replace BK424 := a0_ (bkB_ BK424 hb); replace BK425 := a0_ (bkB_ BK425 hb); replace HR436 := a0_ (Kd.C_below (by repeat (first | (with_reducible exact HR436.out) | (with_reducible refine Kd.C_alloc ?_ _) | (with_reducible refine Kd.C_drewN ?_ _) | (with_reducible refine Kd.C_drew ?_) | exact HR436.out)) hb); replace HB := a0_ (below_step bq1_ hb); clear hb))
       go_roundg k3
       case measure => have := HK1.out; have := HJ7.out; have := HK3.out; omega
       case rel => exact ⟨(x4_3), (wrap64 (x17_1 + 1)), rs_, H', ⟨by have := HK1.out; have := HJ7.out; have := HK3.out; omega⟩, ⟨by (with_reducible repeat (first | apply Kd.R_alloc | apply Kd.R_drewN | apply Kd.R_drew)); exact Kd.R_mono HO_4.out (fun _ hk => trivial)⟩, ⟨bq1_⟩⟩
end Go.Proofs.YtiegkjimpclmaaaGreatDoor.P
