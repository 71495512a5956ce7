/- FnSets: part 11 of 15 of my texts for this claim, joined; the theorem stands in the last. Conditions: none beyond the statement's. -/
import Derived.Test.YtiegkjimpclmaaaGreatDoorMFnSetsx9
import Derived.RangeFuncBox
import Derived.RangeFuncLeaves
import Derived.Shelf.Abstract
import Derived.OwnWalkIn
import Derived.TacticsInMore
import Derived.LoopNIn
import Derived.LoopIn
import Derived.RangeFuncNested
open Go.RowKit Go.Proofs.YtiegkjimpclmaaaGreatDoorW.PrintWords Go.Proofs.YtiegkjimpclmaaaGreatDoorW.PrintLast Go.Proofs.YtiegkjimpclmaaaGreatDoorW.PrintMore
set_option linter.unusedVariables false
set_option linter.unusedSimpArgs false
set_option maxHeartbeats 8000000
set_option maxRecDepth 100000
namespace Go.Proofs.YtiegkjimpclmaaaGreatDoor.P
attribute [local go_sem] max2_int min2_int max_two min_two max_three min_three max_four min_four
mutual
def impl_RecordsOf.l0 : Nat → List (S83) → List (S45) → List (S83) → Int → Int → Option ((List (S45)) × Bool)
 | 0, _, _, _, _, _ => none
 | k + 1, x0, x4, x15, x16, x17 => if x17 < x16 then (if 0 ≤ x17 then (if x17 < (x15.length : Int) then (if (((rd_T83 x15 x17).f3).length : Int) = 0 then (impl_RecordsOf.j1 k x0 x4 x15 x16 x17 true ((rd_T83 x15 x17).f0) ((rd_T83 x15 x17).f1) ((rd_T83 x15 x17).f2) ((rd_T83 x15 x17).f3)) else (if (wrap64 ((x4.length : Int) + (((rd_T83 x15 x17).f3).length : Int))) > 60 then (impl_RecordsOf.j1 k x0 x4 x15 x16 x17 true ((rd_T83 x15 x17).f0) ((rd_T83 x15 x17).f1) ((rd_T83 x15 x17).f2) ((rd_T83 x15 x17).f3)) else (if x17 > 0 then (if 0 ≤ (wrap64 (x17 - 1)) then (if (wrap64 (x17 - 1)) < (x0.length : Int) then ((impl_compareKeys.f k ((rd_T83 x0 (wrap64 (x17 - 1))).f0) ((rd_T83 x0 (wrap64 (x17 - 1))).f1) 0 (⟨#[]⟩ : ByteArray) ((rd_T83 x15 x17).f0) ((rd_T83 x15 x17).f1) 0 (⟨#[]⟩ : ByteArray)).bind fun t428 => (impl_RecordsOf.j1 k x0 x4 x15 x16 x17 (decide (t428 ≥ 0)) ((rd_T83 x15 x17).f0) ((rd_T83 x15 x17).f1) ((rd_T83 x15 x17).f2) ((rd_T83 x15 x17).f3))) else (none)) else (none)) else (impl_RecordsOf.j1 k x0 x4 x15 x16 x17 false ((rd_T83 x15 x17).f0) ((rd_T83 x15 x17).f1) ((rd_T83 x15 x17).f2) ((rd_T83 x15 x17).f3))))) else (none)) else (none)) else (some (x4, true))
def impl_RecordsOf.j1 : Nat → List (S83) → List (S45) → List (S83) → Int → Int → Bool → ByteArray → Int → Int → List ByteArray → Option ((List (S45)) × Bool)
 | 0, _, _, _, _, _, _, _, _, _, _ => none
 | k + 1, x0, x4, x15, x16, x17, x61, x425000, x425001, x425002, x425003 => if x61 = true then (some (([] : List (S45)), false)) else (impl_RecordsOf.l1 k x0 x4 (x4.length : Int) x15 x16 x17 x425003 (x425003.length : Int) 0 x425000 x425001 x425002 x425003)
def impl_RecordsOf.l1 : Nat → List (S83) → List (S45) → Int → List (S83) → Int → Int → List ByteArray → Int → Int → ByteArray → Int → Int → List ByteArray → Option ((List (S45)) × Bool)
 | 0, _, _, _, _, _, _, _, _, _, _, _, _, _ => none
 | k + 1, x0, x4, x8, x15, x16, x17, x65, x66, x67, x425000, x425001, x425002, x425003 => if x67 < x66 then (if 0 ≤ x67 then (if x67 < (x65.length : Int) then (if x4.length < 2932031007402 then (impl_RecordsOf.l1 k x0 (x4 ++ [(⟨x425000, x425001, x425002, rdOf ByteArray.empty x65 x67⟩ : S45)]) x8 x15 x16 x17 x65 x66 (wrap64 (x67 + 1)) x425000 x425001 x425002 x425003) else (none)) else (none)) else (none)) else (if 0 ≤ x8 then (if x8 ≤ (x4.length : Int) then ((impl_areRising.f k (x4.drop (x8 : Int).toNat)).bind fun t437 => (if t437 = true then (impl_RecordsOf.l0 k x0 x4 x15 x16 (wrap64 (x17 + 1))) else (some (([] : List (S45)), false)))) else (none)) else (none))
end
def impl_RecordsOf.f (k : Nat) (l0 : List (S83)) : Option ((List (S45)) × Bool) := if (l0.length : Int) > 40 then (some (([] : List (S45)), false)) else (impl_RecordsOf.l0 k l0 (([] : List (S45))) l0 (l0.length : Int) 0)
def impl_RecordsOf.T8 : Bool × List (List Nat × List Nat) := (true, [([], []), ([0], [0]), ([1], [1]), ([2], [2]), ([3], [3]), ([4], [4]), ([5, 4], [4, 5]), ([4], [4]), ([7, 4], [4, 7]), ([8, 4], [4, 8]), ([6, 9, 4], [4, 6, 9]), ([10, 4], [4, 10]), ([4, 11], [4, 11]), ([12, 4], [12]), ([13], [13]), ([14, 13], [13, 14]), ([15, 13, 13], [13, 15]), ([16], [16]), ([16], [16]), ([18, 16], [16, 18]), ([17, 19, 16], [16, 17, 19]), ([20, 16], [16, 20]), ([21, 16], [16, 21]), ([16], [16]), ([16], [16]), ([24, 16], [16, 24]), ([23, 25, 16], [16, 23, 25]), ([26, 16], [16, 26]), ([27, 16], [16, 27]), ([22, 28, 16], [16, 22, 28]), ([16], [16]), ([29, 30, 16, 16], [16, 29, 30]), ([31, 16], [16, 31]), ([16, 32, 13], [13, 16, 32]), ([13, 33], [13, 33])])
def impl_RecordsOf.B8 : List Nat := [0, 1, 3, 7, 15, 31, 63, 31, 159, 415, 1023, 2047, 4095, 8191, 16383, 32767, 65535, 131071, 131071, 393215, 1048575, 2097151, 4194303, 131071, 131071, 16908287, 58851327, 125960191, 260177919, 536870911, 131071, 2147483647, 4294967295, 8589934591, 17179869183]
theorem impl_RecordsOf.tab8 : rtab .any (opsOf Tryz.f15 8) = impl_RecordsOf.T8 := by kernel_rfl
theorem impl_RecordsOf.bits8 : waitsOk impl_RecordsOf.T8.2 impl_RecordsOf.B8 = true := by kernel_rfl
theorem impl_RecordsOf.calls (k : Nat) (A0 : Option Addr) (c0 : Nat) (l0 : List (S83)) (r1 : List (S45)) (r2 : Bool) (w : World) (hr0 : Kd.C k83 w A0 l0.length l0) (hc0 : l0.length ≤ c0) (h : impl_RecordsOf.f k l0 = some (r1, r2)) (hv_ : Vars w := by exact vv_) :
 Calls Tryz.prog 15 #[.slice A0 l0.length c0] w fun e w' => ∃ v0_ : Value, e = .returned (.tuple #[v0_, .bool r2]) ∧ Kd.R k45 45 w' w.heap.size (fun _ => True) v0_ r1 ∧ Below w.heap.size w w' := by
 have HV_ := a0_ hv_
 clear hv_
 have hu83 := Tryz.underlying83
 have hu45 := Tryz.underlying45
 have HR0 := a0_ hr0
 have HC0 := a0_ hc0
 clear hr0 hc0
 have HB := a0_ (Below.refl w.heap.size w)
 have H := h
 clear h
 unfold impl_RecordsOf.f at H
 by_cases c2 : (l0.length : Int) > 40
 case pos =>
  rw [if_pos c2] at H
  have c2b0 := decide_eq_true c2
  have c2b1 : decide (40 < l0.length) = true := decide_eq_true (by omega)
  clear c2
  simp only [Option.some.injEq, Prod.mk.injEq] at H
  obtain ⟨rfl, rfl⟩ := H
  go_enter Tryz.func15, Tryz.ntmps15
  go_wp2
  go_ret2
  exact ⟨_, rr_, by first | exact Kd.R_nil _ _ _ _ _ | exact Kd.N_nil _ _ _ _ _ | exact Kd.V_nil _ _ _ _ _ | exact Kd.Q_nil _ _ _ _ _ | exact Kd.S_nil _ _ _ _ _, bq0_⟩
 rw [if_neg c2] at H
 have c2b0 := decide_eq_false c2
 have c2b1 : decide (40 < l0.length) = false := decide_eq_false (by omega)
 clear c2
 obtain ⟨y420, hy420⟩ : ∃ y_ : List (S45), y_ = (([] : List (S45))) := ⟨_, rfl⟩
 replace H : (impl_RecordsOf.l0 k l0 y420 l0 (l0.length : Int) 0) = some (r1, r2) := by first | (rw [hy420]; with_reducible exact H) | (have H2_ := (Option.bind_some _ _).symm.trans H; rw [hy420]; with_reducible exact H2_) | (have H2_ := (Option.bind_some _ _).symm.trans H; with_reducible exact H2_) | with_reducible exact H | (rw [hy420]; exact H) | exact H
 have Ny420 := a0_ hy420
 clear hy420
 have H' := a0_ H
 clear H
 go_enter Tryz.func15, Tryz.ntmps15
 go_wp2_with (first | ((with_reducible refine gate_dst (N := 14) rfl ?_); (try (refine gate_guard (by rfl) ?_; dsimp only)); refine Kd.R_lit k45 _ 45 ?hg (N := 14) ?hd (xs := ([] : List (S45))) (inner := []) (ok := fun _ => True) (okp := fun _ => True) ?hr ?hp (fun _ hk => hk) trivial (Below.refl _ _) (Nat.le_refl _) (by simp) ?_; (case hd => rfl); (case hg => rfl); (case hr => first | (go_simp; done) | (go_simp; rfl)); (case hp => exact (Reps.none _ _)); intro v421 w3 ho4 hb hg_ hnew_; clear hg_ hnew_; (first | rw [← Ny420.out] at ho4 | (simp only [Int.reduceToNat] at ho4; rw [← Ny420.out] at ho4)); have HO422 := a0_ (Kd.R_lower ho4 (below_size bq0_)); replace HB := a0_ (below_step bq0_ hb); clear hb ho4))
 go_loopg [4, 17] k (fun kq v4 v17 w' => ∃ (x4_1 : List (S45)) (x17_1 : Int), v17 = .int .i64 x17_1 ∧ Aside0 (impl_RecordsOf.l0 kq l0 x4_1 l0 (l0.length : Int) x17_1 = some (r1, r2)) ∧ Aside0 (kq ≤ k) ∧ Aside0 (Kd.R k45 45 w' w.heap.size (fun _ => True) v4 x4_1) ∧ Aside0 (Below w.heap.size w w'))
 case atStart => exact ⟨(y420), (0), rs_, H', ⟨Nat.le_refl _⟩, ⟨kR_ HO422.out⟩, ⟨bq0_⟩⟩
 case round =>
  clear H'
  try clear c2
  try clear c2b0
  try clear c2b1
  obtain ⟨x4_1, x17_1, rfl, HA, HK1, HO_4, HB⟩ := hrel
  cases gk with
  | zero => exact absurd HA.out (by simp [impl_RecordsOf.l0])
  | succ k1 =>
   have H := HA.out
   clear HA
   simp only [impl_RecordsOf.l0] at H
   by_cases c5 : x17_1 < (l0.length : Int)
   case neg =>
    rw [if_neg c5] at H
    have c5b0 := decide_eq_false c5
    clear c5
    simp only [Option.some.injEq, Prod.mk.injEq] at H
    obtain ⟨rfl, rfl⟩ := H
    go_wp2
    go_ret2
    exact ⟨_, rr_, kR_ HO_4.out, bq0_⟩
   rw [if_pos c5] at H
   have c5b0 := decide_eq_true c5
   clear c5
   by_cases c6 : 0 ≤ x17_1
   case neg =>
    rw [if_neg c6] at H
    exact absurd H (by simp)
   rw [if_pos c6] at H
   have c6b0 := decide_eq_true c6
   clear c6
   by_cases c7 : x17_1 < (l0.length : Int)
   case neg =>
    rw [if_neg c7] at H
    exact absurd H (by simp)
   rw [if_pos c7] at H
   have c7b0 := decide_eq_true c7
   clear c7
   have HC8 := a0_ H
   clear H
   have p423 := t0_ (x17_1)
   have q423 := tl_ (x17_1) (l0.length)
   obtain ⟨ad423, A423_3, c423_3, e423, -, -, -, -, hx423_0, hx423_1, hx423_2, hx423_3, HR423_3, HC423_3⟩ := ri_ HB (at_T83 HR0.out x17_1 (of_eq_true p423) (of_eq_true q423))
   cases e423
   go_upto_region 8 with (first | ((with_reducible refine gate_dst (N := 6) rfl ?_); (try (refine gate_guard (by rfl) ?_; dsimp only)); refine boxS_ 6 #[.string (⟨#[]⟩ : ByteArray), .int .i64 0, .int .i64 0, .slice none 0 0] 83 (fun gb424 hg w9 hbox hb => ?_); replace HO_4 := a0_ (Kd.R_below (kR_ HO_4.out) hb); have BK424 := a0_ (hbox); have GW424 := a0_ (gw_ hg : w.heap.size ≤ gb424); replace HB := a0_ (below_step bq0_ hb); have GE424 := GW424; clear hb hbox hg; obtain ⟨_, _, _, _, _, _, _, _⟩ := bk4_ BK424.out) | ((with_reducible refine gate_dst (N := 7) rfl ?_); (try (refine gate_guard (by rfl) ?_; dsimp only)); refine boxS_ 7 #[.string (⟨#[]⟩ : ByteArray), .int .i64 0, .int .i64 0, .string (⟨#[]⟩ : ByteArray)] 45 (fun gb425 hg w11 hbox hb => ?_); replace HO_4 := a0_ (Kd.R_below (Kd.R_elderB (kR_ (farR4_ HO_4.out BK424.out)) gb425 (Nat.le_of_eq hg.symm)) hb); have BK425 := a0_ (hbox); have GW425 := a0_ (gw_ hg (below_size bq1_) : w.heap.size ≤ gb425); replace HB := a0_ (below_step bq1_ hb); have NB424_425 := a0_ ((by rw [hg]; exact Nat.ne_of_lt (blk_lt (g := gb424) (o := .cells #[.string ((rd_T83 l0 x17_1).f0), .int .i64 ((rd_T83 l0 x17_1).f1), .int .i64 ((rd_T83 l0 x17_1).f2), .slice A423_3 ((rd_T83 l0 x17_1).f3).length c423_3] 83 (0, 0)) (put4_ BK424.out)) : gb424 ≠ gb425)); have NB425_424 := a0_ ((by rw [hg]; exact Nat.ne_of_gt (blk_lt (g := gb424) (o := .cells #[.string ((rd_T83 l0 x17_1).f0), .int .i64 ((rd_T83 l0 x17_1).f1), .int .i64 ((rd_T83 l0 x17_1).f2), .slice A423_3 ((rd_T83 l0 x17_1).f3).length c423_3] 83 (0, 0)) (put4_ BK424.out)) : gb425 ≠ gb424)); replace BK424 := a0_ (blk_below (g := gb424) (o := .cells #[.string ((rd_T83 l0 x17_1).f0), .int .i64 ((rd_T83 l0 x17_1).f1), .int .i64 ((rd_T83 l0 x17_1).f2), .slice A423_3 ((rd_T83 l0 x17_1).f3).length c423_3] 83 (0, 0)) (put4_ BK424.out) hb); have GE425 := GW425; clear hb hbox hg; have hnb12 := NB425_424.out; have hnc12 := NB424_425.out; obtain ⟨_, _, _, _, _, _, _, _⟩ := bk4_ BK425.out))
   (try simp only [Act.put, List.setIfInBounds_toArray, List.set_cons_zero, List.set_cons_succ])
   go_cut [61] (fun v61 wc => ∃ (kq : Nat) (x61_7 : Bool), v61 = .bool x61_7 ∧ Aside0 (impl_RecordsOf.j1 kq l0 x4_1 l0 (l0.length : Int) x17_1 x61_7 ((rd_T83 l0 x17_1).f0) ((rd_T83 l0 x17_1).f1) ((rd_T83 l0 x17_1).f2) ((rd_T83 l0 x17_1).f3) = some (r1, r2)) ∧ Aside0 (kq ≤ k1) ∧ Aside0 (Kd.R k45 45 wc w.heap.size (fun k_ => k_ ≠ gb425) u4 x4_1) ∧ Aside0 (wc.heap[gb424]? = some (.cells #[.string ((rd_T83 l0 x17_1).f0), .int .i64 ((rd_T83 l0 x17_1).f1), .int .i64 ((rd_T83 l0 x17_1).f2), (.slice A423_3 ((rd_T83 l0 x17_1).f3).length c423_3)] 83 (0, 0))) ∧ Aside0 (wc.heap[gb425]? = some (.cells #[.string ((rd_T83 l0 x17_1).f0), .int .i64 ((rd_T83 l0 x17_1).f1), .int .i64 0, .string (⟨#[]⟩ : ByteArray)] 45 (0, 0))) ∧ Aside0 (Below w.heap.size w wc))
   case first =>
    have H := HC8.out
    clear HC8
    by_cases c14 : (((rd_T83 l0 x17_1).f3).length : Int) = 0
    case pos =>
     rw [if_pos c14] at H
     have c14b0 := beq_iff_eq.mpr c14
     have c14b1 := bne_eq_false_iff_eq.mpr c14
     clear c14
     (first | rw [c14b0] | (simp only [i64_w, i32_w]; rw [c14b0]) | skip)
     have H' := a0_ H
     clear H
     try go_wp2
     generalize hE_ : ((((w11.setCell ⟨gb425, 0, none⟩ (.string ((rd_T83 l0 x17_1).f0))).setCell ⟨gb425, 1, none⟩ (.int .i64 ((rd_T83 l0 x17_1).f1))).setCell ⟨gb425, 2, none⟩ (.int .i64 0)).setCell ⟨gb425, 3, none⟩ (.string (⟨#[]⟩ : ByteArray))) = w15
     have n0_ : Aside0 (Kd.R k45 45 w15 w.heap.size (fun k_ => k_ ≠ gb425) u4 x4_1) := ⟨by rw [← hE_]; exact kR_ (Kd.R_mono (rf4_ gb425 (Kd.R_mono HO_4.out (fun k_ hk => (⟨hk, hk.2⟩ : _ ∧ k_ ≠ gb425))) (fun _ hk => hk.2) (.string ((rd_T83 l0 x17_1).f0)) (.int .i64 ((rd_T83 l0 x17_1).f1)) (.int .i64 0) (.string (⟨#[]⟩ : ByteArray))) (fun _ hk => hk.1.2))⟩
     have n1_ : Aside0 (w15.heap[gb424]? = some (.cells #[.string ((rd_T83 l0 x17_1).f0), .int .i64 ((rd_T83 l0 x17_1).f1), .int .i64 ((rd_T83 l0 x17_1).f2), .slice A423_3 ((rd_T83 l0 x17_1).f3).length c423_3] 83 (0, 0))) := ⟨by rw [← hE_]; exact bfar4_ NB424_425.out BK424.out⟩
     have n2_ : Aside0 (w15.heap[gb425]? = some (.cells #[.string ((rd_T83 l0 x17_1).f0), .int .i64 ((rd_T83 l0 x17_1).f1), .int .i64 0, .string (⟨#[]⟩ : ByteArray)] 45 (0, 0))) := ⟨by rw [← hE_]; exact put4_ BK425.out⟩
     have n3_ : Aside0 (Below w.heap.size w w15) := ⟨by rw [← hE_]; exact bq1_⟩
     (try clear HO_4)
     (try clear BK424)
     (try clear BK425)
     (try clear HB)
     clear hE_
     have HO_4 := n0_
     have BK424 := n1_
     have BK425 := n2_
     have HB := n3_
     clear n0_ n1_ n2_ n3_
     replace HO_4 := a0_ (Kd.R_drew HO_4.out)
     replace BK424 := a0_ (blk_drew BK424.out)
     replace BK425 := a0_ (blk_drew BK425.out)
     replace HB := a0_ (below_drew1 HB.out)
     refine stH_ 35 [] (eb_ BK424.out) (fun hHeld => ?_); refine with_tabW impl_RecordsOf.tab8 impl_RecordsOf.bits8 (fun HT_ HW_ => ?_)
     generalize w15.drew = w16 at HO_4 BK424 BK425 HB hHeld ⊢
     refine p_ 0 27 ?_
     refine t_ 1 28 ?_
     refine p_ 2 29 ?_
     refine p_ 3 30 ?_
     refine p_ 4 31 ?_
     refine s_ 5 32 ?_
     refine s_ 6 33 ?_
     refine s_ 7 34 ?_
     refine s_ 8 35 ?_
     refine s_ 9 36 ?_
     refine s_ 10 37 ?_
     refine s_ 11 38 ?_
     refine p_ 12 39 ?_
     refine p_ 13 40 ?_
     refine s_ 14 41 ?_
     refine s_ 15 42 ?_
     refine s_ 16 43 ?_
     refine s_ 17 44 ?_
     refine s_ 18 45 ?_
     refine s_ 19 46 ?_
     refine s_ 20 47 ?_
     refine s_ 21 48 ?_
     refine s_ 22 49 ?_
     refine s_ 23 50 ?_
     refine s_ 24 51 ?_
     refine s_ 25 52 ?_
     refine s_ 26 53 ?_
     refine s_ 27 54 ?_
     refine s_ 28 55 ?_
     refine s_ 29 56 ?_
     refine s_ 30 57 ?_
     refine s_ 31 58 ?_
     refine s_ 32 59 ?_
     refine s_ 33 60 ?_
     refine p_ 34 61 ?_
     refine done_ (done_of HT_.out (by kernel_rfl)) ?_
     try go_wp2
     go_meet
     case rel => exact ⟨_, (true), rs_, H', jl_ HK1, ⟨kR_ HO_4.out⟩, ⟨bz_⟩, ⟨bz_⟩, ⟨bq1_⟩⟩
    rw [if_neg c14] at H
    have c14b0 := beq_eq_false_iff_ne.mpr c14
    have c14b1 := bne_iff_ne.mpr c14
    have c14b2 : ¬ (((rd_T83 l0 x17_1).f3) = []) := fun h_ => c14 (by rw [h_]; rfl)
    (first | rw [c14b0] | (simp only [i64_w, i32_w]; rw [c14b0]) | skip)
    by_cases c17 : (wrap64 ((x4_1.length : Int) + (((rd_T83 l0 x17_1).f3).length : Int))) > 60
    case pos =>
     rw [if_pos c17] at H
     have c17b0 := decide_eq_true c17
     clear c17
     have H' := a0_ H
     clear H
     try go_wp2
     generalize hE_ : ((((w11.setCell ⟨gb425, 0, none⟩ (.string ((rd_T83 l0 x17_1).f0))).setCell ⟨gb425, 1, none⟩ (.int .i64 ((rd_T83 l0 x17_1).f1))).setCell ⟨gb425, 2, none⟩ (.int .i64 0)).setCell ⟨gb425, 3, none⟩ (.string (⟨#[]⟩ : ByteArray))) = w18
     have n0_ : Aside0 (Kd.R k45 45 w18 w.heap.size (fun k_ => k_ ≠ gb425) u4 x4_1) := ⟨by rw [← hE_]; exact kR_ (Kd.R_mono (rf4_ gb425 (Kd.R_mono HO_4.out (fun k_ hk => (⟨hk, hk.2⟩ : _ ∧ k_ ≠ gb425))) (fun _ hk => hk.2) (.string ((rd_T83 l0 x17_1).f0)) (.int .i64 ((rd_T83 l0 x17_1).f1)) (.int .i64 0) (.string (⟨#[]⟩ : ByteArray))) (fun _ hk => hk.1.2))⟩
     have n1_ : Aside0 (w18.heap[gb424]? = some (.cells #[.string ((rd_T83 l0 x17_1).f0), .int .i64 ((rd_T83 l0 x17_1).f1), .int .i64 ((rd_T83 l0 x17_1).f2), .slice A423_3 ((rd_T83 l0 x17_1).f3).length c423_3] 83 (0, 0))) := ⟨by rw [← hE_]; exact bfar4_ NB424_425.out BK424.out⟩
     have n2_ : Aside0 (w18.heap[gb425]? = some (.cells #[.string ((rd_T83 l0 x17_1).f0), .int .i64 ((rd_T83 l0 x17_1).f1), .int .i64 0, .string (⟨#[]⟩ : ByteArray)] 45 (0, 0))) := ⟨by rw [← hE_]; exact put4_ BK425.out⟩
     have n3_ : Aside0 (Below w.heap.size w w18) := ⟨by rw [← hE_]; exact bq1_⟩
     (try clear HO_4)
     (try clear BK424)
     (try clear BK425)
     (try clear HB)
     clear hE_
     have HO_4 := n0_
     have BK424 := n1_
     have BK425 := n2_
     have HB := n3_
     clear n0_ n1_ n2_ n3_
     replace HO_4 := a0_ (Kd.R_drew HO_4.out)
     replace BK424 := a0_ (blk_drew BK424.out)
     replace BK425 := a0_ (blk_drew BK425.out)
     replace HB := a0_ (below_drew1 HB.out)
     obtain ⟨Ao20, co20, eo20⟩ := Kd.R_slice HO_4.out
     (first | subst eo20 | (injection eo20 with f1_ f2_ f3_; have f4_ := f1_.symm; have f5_ := f3_.symm; clear f1_ f2_ f3_; subst f4_; subst f5_))
     refine stH_ 35 [] (eb_ BK424.out) (fun hHeld => ?_); refine with_tabW impl_RecordsOf.tab8 impl_RecordsOf.bits8 (fun HT_ HW_ => ?_)
     generalize w18.drew = w19 at HO_4 BK424 BK425 HB hHeld ⊢
     refine p_ 0 27 ?_
     refine t_ 1 28 ?_
     refine p_ 2 29 ?_
     refine p_ 3 30 ?_
     refine p_ 4 31 ?_
     refine p_ 5 32 ?_
     refine p_ 6 33 ?_
     refine p_ 7 34 ?_
     refine t_ 8 35 ?_
     refine p_ 9 36 ?_
     refine p_ 10 37 ?_
     refine p_ 11 38 ?_
     refine p_ 12 39 ?_
     refine p_ 13 40 ?_
     refine s_ 14 41 ?_
     refine s_ 15 42 ?_
     refine s_ 16 43 ?_
     refine s_ 17 44 ?_
     refine s_ 18 45 ?_
     refine s_ 19 46 ?_
     refine s_ 20 47 ?_
     refine s_ 21 48 ?_
     refine s_ 22 49 ?_
     refine s_ 23 50 ?_
     refine s_ 24 51 ?_
     refine s_ 25 52 ?_
     refine s_ 26 53 ?_
     refine s_ 27 54 ?_
     refine s_ 28 55 ?_
     refine s_ 29 56 ?_
     refine s_ 30 57 ?_
     refine s_ 31 58 ?_
     refine s_ 32 59 ?_
     refine s_ 33 60 ?_
     refine p_ 34 61 ?_
     refine done_ (done_of HT_.out (by kernel_rfl)) ?_
     try go_wp2
     go_meet
     case rel => exact ⟨_, (true), rs_, H', jl_ HK1, ⟨kR_ HO_4.out⟩, ⟨bz_⟩, ⟨bz_⟩, ⟨bq1_⟩⟩
    rw [if_neg c17] at H
    have c17b0 := decide_eq_false c17
    clear c17
    by_cases c21 : x17_1 > 0
    case neg =>
     rw [if_neg c21] at H
     have c21b0 := decide_eq_false c21
     clear c21
     have H' := a0_ H
     clear H
     try go_wp2
     generalize hE_ : ((((w11.setCell ⟨gb425, 0, none⟩ (.string ((rd_T83 l0 x17_1).f0))).setCell ⟨gb425, 1, none⟩ (.int .i64 ((rd_T83 l0 x17_1).f1))).setCell ⟨gb425, 2, none⟩ (.int .i64 0)).setCell ⟨gb425, 3, none⟩ (.string (⟨#[]⟩ : ByteArray))) = w30
     have n0_ : Aside0 (Kd.R k45 45 w30 w.heap.size (fun k_ => k_ ≠ gb425) u4 x4_1) := ⟨by rw [← hE_]; exact kR_ (Kd.R_mono (rf4_ gb425 (Kd.R_mono HO_4.out (fun k_ hk => (⟨hk, hk.2⟩ : _ ∧ k_ ≠ gb425))) (fun _ hk => hk.2) (.string ((rd_T83 l0 x17_1).f0)) (.int .i64 ((rd_T83 l0 x17_1).f1)) (.int .i64 0) (.string (⟨#[]⟩ : ByteArray))) (fun _ hk => hk.1.2))⟩
     have n1_ : Aside0 (w30.heap[gb424]? = some (.cells #[.string ((rd_T83 l0 x17_1).f0), .int .i64 ((rd_T83 l0 x17_1).f1), .int .i64 ((rd_T83 l0 x17_1).f2), .slice A423_3 ((rd_T83 l0 x17_1).f3).length c423_3] 83 (0, 0))) := ⟨by rw [← hE_]; exact bfar4_ NB424_425.out BK424.out⟩
     have n2_ : Aside0 (w30.heap[gb425]? = some (.cells #[.string ((rd_T83 l0 x17_1).f0), .int .i64 ((rd_T83 l0 x17_1).f1), .int .i64 0, .string (⟨#[]⟩ : ByteArray)] 45 (0, 0))) := ⟨by rw [← hE_]; exact put4_ BK425.out⟩
     have n3_ : Aside0 (Below w.heap.size w w30) := ⟨by rw [← hE_]; exact bq1_⟩
     (try clear HO_4)
     (try clear BK424)
     (try clear BK425)
     (try clear HB)
     clear hE_
     have HO_4 := n0_
     have BK424 := n1_
     have BK425 := n2_
     have HB := n3_
     clear n0_ n1_ n2_ n3_
     replace HO_4 := a0_ (Kd.R_drew HO_4.out)
     replace BK424 := a0_ (blk_drew BK424.out)
     replace BK425 := a0_ (blk_drew BK425.out)
     replace HB := a0_ (below_drew1 HB.out)
     obtain ⟨Ao32, co32, eo32⟩ := Kd.R_slice HO_4.out
     (first | subst eo32 | (injection eo32 with f1_ f2_ f3_; have f4_ := f1_.symm; have f5_ := f3_.symm; clear f1_ f2_ f3_; subst f4_; subst f5_))
     refine stH_ 35 [] (eb_ BK424.out) (fun hHeld => ?_); refine with_tabW impl_RecordsOf.tab8 impl_RecordsOf.bits8 (fun HT_ HW_ => ?_)
     generalize w30.drew = w31 at HO_4 BK424 BK425 HB hHeld ⊢
     refine p_ 0 27 ?_
     refine t_ 1 28 ?_
     refine p_ 2 29 ?_
     refine p_ 3 30 ?_
     refine p_ 4 31 ?_
     refine p_ 5 32 ?_
     refine p_ 6 33 ?_
     refine p_ 7 34 ?_
     refine t_ 8 35 ?_
     refine p_ 9 36 ?_
     refine p_ 10 37 ?_
     refine p_ 11 38 ?_
     refine p_ 12 39 ?_
     refine p_ 13 40 ?_
     refine p_ 14 41 ?_
     refine p_ 15 42 ?_
     refine p_ 16 43 ?_
     refine s_ 17 44 ?_
     refine s_ 18 45 ?_
     refine s_ 19 46 ?_
     refine s_ 20 47 ?_
     refine s_ 21 48 ?_
     refine s_ 22 49 ?_
     refine s_ 23 50 ?_
     refine s_ 24 51 ?_
     refine s_ 25 52 ?_
     refine s_ 26 53 ?_
     refine s_ 27 54 ?_
     refine s_ 28 55 ?_
     refine s_ 29 56 ?_
     refine s_ 30 57 ?_
     refine s_ 31 58 ?_
     refine s_ 32 59 ?_
     refine p_ 33 60 ?_
     refine p_ 34 61 ?_
     refine done_ (done_of HT_.out (by kernel_rfl)) ?_
     try go_wp2
     go_meet
     case rel => exact ⟨_, (false), rs_, H', jl_ HK1, ⟨kR_ HO_4.out⟩, ⟨bz_⟩, ⟨bz_⟩, ⟨bq1_⟩⟩
    rw [if_pos c21] at H
    have c21b0 := decide_eq_true c21
    clear c21
    obtain ⟨ji22, hji22⟩ : ∃ j_ : Int, (wrap64 (x17_1 - 1)) = j_ := ⟨_, rfl⟩
    (first | rw [hji22] at H | simp only [hji22] at H)
    have hji22w : (IntKind.i64.wrap (x17_1 - 1)) = ji22 := (i64_w _).trans hji22
    by_cases c23 : 0 ≤ (ji22)
    case neg =>
     rw [if_neg c23] at H
     exact absurd H (by simp)
    rw [if_pos c23] at H
    have c23b0 := decide_eq_true c23
    clear c23
    by_cases c24 : (ji22) < (l0.length : Int)
    case neg =>
     rw [if_neg c24] at H
     exact absurd H (by simp)
    rw [if_pos c24] at H
    have c24b0 := decide_eq_true c24
    clear c24
    obtain ⟨t428, A25, H⟩ := ob_ H
    have H' := a0_ H
    clear H
    try go_wp2
    generalize hE_ : ((((w11.setCell ⟨gb425, 0, none⟩ (.string ((rd_T83 l0 x17_1).f0))).setCell ⟨gb425, 1, none⟩ (.int .i64 ((rd_T83 l0 x17_1).f1))).setCell ⟨gb425, 2, none⟩ (.int .i64 0)).setCell ⟨gb425, 3, none⟩ (.string (⟨#[]⟩ : ByteArray))) = w26
    have n0_ : Aside0 (Kd.R k45 45 w26 w.heap.size (fun k_ => k_ ≠ gb425) u4 x4_1) := ⟨by rw [← hE_]; exact kR_ (Kd.R_mono (rf4_ gb425 (Kd.R_mono HO_4.out (fun k_ hk => (⟨hk, hk.2⟩ : _ ∧ k_ ≠ gb425))) (fun _ hk => hk.2) (.string ((rd_T83 l0 x17_1).f0)) (.int .i64 ((rd_T83 l0 x17_1).f1)) (.int .i64 0) (.string (⟨#[]⟩ : ByteArray))) (fun _ hk => hk.1.2))⟩
    have n1_ : Aside0 (w26.heap[gb424]? = some (.cells #[.string ((rd_T83 l0 x17_1).f0), .int .i64 ((rd_T83 l0 x17_1).f1), .int .i64 ((rd_T83 l0 x17_1).f2), .slice A423_3 ((rd_T83 l0 x17_1).f3).length c423_3] 83 (0, 0))) := ⟨by rw [← hE_]; exact bfar4_ NB424_425.out BK424.out⟩
    have n2_ : Aside0 (w26.heap[gb425]? = some (.cells #[.string ((rd_T83 l0 x17_1).f0), .int .i64 ((rd_T83 l0 x17_1).f1), .int .i64 0, .string (⟨#[]⟩ : ByteArray)] 45 (0, 0))) := ⟨by rw [← hE_]; exact put4_ BK425.out⟩
    have n3_ : Aside0 (Below w.heap.size w w26) := ⟨by rw [← hE_]; exact bq1_⟩
    (try clear HO_4)
    (try clear BK424)
    (try clear BK425)
    (try clear HB)
    clear hE_
    have HO_4 := n0_
    have BK424 := n1_
    have BK425 := n2_
    have HB := n3_
    clear n0_ n1_ n2_ n3_
    replace HO_4 := a0_ (Kd.R_drew HO_4.out)
    replace BK424 := a0_ (blk_drew BK424.out)
    replace BK425 := a0_ (blk_drew BK425.out)
    replace HB := a0_ (below_drew1 HB.out)
    obtain ⟨Ao28, co28, eo28⟩ := Kd.R_slice HO_4.out
    (first | subst eo28 | (injection eo28 with f1_ f2_ f3_; have f4_ := f1_.symm; have f5_ := f3_.symm; clear f1_ f2_ f3_; subst f4_; subst f5_))
    have p426 := t0_ ((ji22))
    have q426 := tl_ ((ji22)) (l0.length)
    obtain ⟨ad426, A426_3, c426_3, e426, hw426_0, hw426_1, hw426_2, hw426_3, hx426_0, hx426_1, hx426_2, hx426_3, HR426_3, HC426_3⟩ := ri_ HB (at_T83 HR0.out (ji22) (of_eq_true p426) (of_eq_true q426))
    obtain rfl : ad423 = ad426 := (by injection e426)
    have p427 := t0_ ((ji22))
    have q427 := tl_ ((ji22)) (l0.length)
    obtain ⟨ad427, A427_3, c427_3, e427, hw427_0, hw427_1, hw427_2, hw427_3, hx427_0, hx427_1, hx427_2, hx427_3, HR427_3, HC427_3⟩ := ri_ HB (at_T83 HR0.out (ji22) (of_eq_true p427) (of_eq_true q427))
    obtain rfl : ad423 = ad427 := (by injection e427)
    have ea_ := Option.some.inj (hx426_3.symm.trans hx427_3)
    injection ea_ with ea_ en_ ec_
    subst ea_
    subst ec_
    clear en_
    refine stH_ 35 [] (cb_ BK424.out (cb_ BK425.out (cu_ HB.out hw426_0 hw426_1 hw426_2 hw426_3 (eu_ HB.out hw427_0 hw427_1 hw427_2 hw427_3)))) (fun hHeld => ?_); refine with_tabW impl_RecordsOf.tab8 impl_RecordsOf.bits8 (fun HT_ HW_ => ?_)
    generalize w26.drew = w27 at HO_4 BK424 BK425 HB HR426_3 HR427_3 hx426_0 hx426_1 hx426_2 hx426_3 hx427_0 hx427_1 hx427_2 hx427_3 hHeld ⊢
    refine p_ 0 27 ?_
    refine t_ 1 28 ?_
    refine p_ 2 29 ?_
    refine p_ 3 30 ?_
    refine p_ 4 31 ?_
    refine p_ 5 32 ?_
    refine p_ 6 33 ?_
    refine p_ 7 34 ?_
    refine t_ 8 35 ?_
    refine p_ 9 36 ?_
    refine p_ 10 37 ?_
    refine p_ 11 38 ?_
    refine p_ 12 39 ?_
    refine p_ 13 40 ?_
    refine p_ 14 41 ?_
    refine p_ 15 42 ?_
    refine p_ 16 43 ?_
    refine p_ 17 44 ?_
    refine p_ 18 45 ?_
    refine p_ 19 46 ?_
    refine p_ 20 47 ?_
    refine p_ 21 48 ?_
    refine p_ 23 50 ?_
    refine p_ 24 51 ?_
    refine p_ 25 52 ?_
    refine p_ 26 53 ?_
    refine p_ 27 54 ?_
    refine t_ 22 49 ?_
    refine t_ 28 55 ?_
    refine p_ 29 56 ?_
    refine t_ 30 57 ?_
    refine oneS_ 31 (some 58) (fun K hK => ?_)
    refine goes_ Tryz.func65 (by kernel_rfl) rfl #[.agg #[.string ((rd_T83 l0 (ji22)).f0), .int .i64 ((rd_T83 l0 (ji22)).f1), .int .i64 0, .string (⟨#[]⟩ : ByteArray)], .agg #[.string ((rd_T83 l0 x17_1).f0), .int .i64 ((rd_T83 l0 x17_1).f1), .int .i64 0, .string (⟨#[]⟩ : ByteArray)]] (by rfl) rfl rfl (by (try simp only [List.map_toArray, List.map_cons, List.map_nil]); first | done | (simp only [hji22]; rfl) | rfl | (simp only [List.length_drop, List.length_take]; rfl)) ?_
    with_reducible refine (impl_compareKeys.calls k1 ((rd_T83 l0 (ji22)).f0) ((rd_T83 l0 (ji22)).f1) 0 (⟨#[]⟩ : ByteArray) ((rd_T83 l0 x17_1).f0) ((rd_T83 l0 x17_1).f1) 0 (⟨#[]⟩ : ByteArray) t428 _ A25.out).mono ?_
    rintro e w29 ⟨rfl, hb⟩
    refine ⟨_, rfl, ?_⟩
    replace HO_4 := a0_ (Kd.R_below (kR_ HO_4.out) hb)
    replace BK424 := a0_ (bkB_ BK424 hb)
    replace BK425 := a0_ (bkB_ BK425 hb)
    replace HB := a0_ (below_step bq1_ hb)
    (try clear hb)
    (try clear hb2)
    (try clear hk)
    (try clear hi)
    refine hK.out _ _ (cb_ BK424.out (cb_ BK425.out (cu_ HB.out hw426_0 hw426_1 hw426_2 hw426_3 (eu_ HB.out hw427_0 hw427_1 hw427_2 hw427_3)))).out (fun hHeld => ?_)
    clear hK K
    refine normS_ ?_
    refine p_ 32 59 ?_
    refine p_ 33 60 ?_
    refine p_ 34 61 ?_
    refine done_ (done_of HT_.out (by kernel_rfl)) ?_
    try go_wp2
    go_meet
    case rel => exact ⟨_, (decide (t428 ≥ 0)), rs_, H', jl_ HK1, ⟨kR_ HO_4.out⟩, ⟨bz_⟩, ⟨bz_⟩, ⟨bq1_⟩⟩
   case rest =>
    clear HC8
    try clear c2
    try clear p2
    try clear c6
    obtain ⟨kq, x61_7, rfl, HA, HJ7, HO_4, BK424, BK425, HB⟩ := hcut
    cases kq with
    | zero => exact absurd HA.out (by simp [impl_RecordsOf.j1])
    | succ kj7 =>
     have H := HA.out
     clear HA
     simp only [impl_RecordsOf.j1] at H
     by_cases c33 : x61_7 = true
     case pos =>
      subst c33
      rw [if_pos rfl] at H
      simp only [Option.some.injEq, Prod.mk.injEq] at H
      obtain ⟨rfl, rfl⟩ := H
      go_wp2
      go_ret2
      exact ⟨_, rr_, by first | exact Kd.R_nil _ _ _ _ _ | exact Kd.N_nil _ _ _ _ _ | exact Kd.V_nil _ _ _ _ _ | exact Kd.Q_nil _ _ _ _ _ | exact Kd.S_nil _ _ _ _ _, bq1_⟩
     replace c33 := Bool.eq_false_iff.mpr c33
     subst c33
     rw [if_neg ff_] at H
     have H' := a0_ H
     clear H
     obtain ⟨Ao34, co34, eo34⟩ := Kd.R_slice HO_4.out
     subst eo34
     have hnb35 := NB424_425.out
     have hnc35 := NB425_424.out
     obtain ⟨z36_0, z36_1, z36_2, z36_3, q36_0, q36_1, q36_2, q36_3⟩ := bk4_ BK424.out
     go_wp2
     go_loopg [4, 67] kj7 (fun kq v4 v67 w' => ∃ (x4_3 : List (S45)) (x67_3 : Int), v67 = .int .i64 x67_3 ∧ Aside0 (impl_RecordsOf.l1 kq l0 x4_3 (x4_1.length : Int) l0 (l0.length : Int) x17_1 ((rd_T83 l0 x17_1).f3) (((rd_T83 l0 x17_1).f3).length : Int) x67_3 ((rd_T83 l0 x17_1).f0) ((rd_T83 l0 x17_1).f1) ((rd_T83 l0 x17_1).f2) ((rd_T83 l0 x17_1).f3) = some (r1, r2)) ∧ Aside0 (kq ≤ kj7) ∧ Aside0 (Kd.R k45 45 w' w.heap.size (fun k_ => k_ ≠ gb425) v4 x4_3) ∧ Aside0 (w'.heap[gb424]? = some (.cells #[.string ((rd_T83 l0 x17_1).f0), .int .i64 ((rd_T83 l0 x17_1).f1), .int .i64 ((rd_T83 l0 x17_1).f2), (.slice A423_3 ((rd_T83 l0 x17_1).f3).length c423_3)] 83 (0, 0))) ∧ Aside0 (w'.heap[gb425]? = some (.cells #[.string ((rd_T83 l0 x17_1).f0), .int .i64 ((rd_T83 l0 x17_1).f1), .int .i64 0, .string (⟨#[]⟩ : ByteArray)] 45 (0, 0))) ∧ Aside0 (Below w.heap.size w w'))
     case atStart => exact ⟨(x4_1), (0), rs_, H', ⟨Nat.le_refl _⟩, ⟨kR_ HO_4.out⟩, ⟨bz_⟩, ⟨bz_⟩, ⟨bq1_⟩⟩
     case round =>
      clear H'
      try clear c2
      try clear p2
      try clear c4
      try clear p4
      try clear q4
      try clear hx4
      try clear c6
      try clear c21
      try clear c21b0
      try clear c23
      try clear c24
      try clear c33
      try clear z36_0 z36_1 z36_2 z36_3 q36_0 q36_1 q36_2 q36_3
      try clear hx426_0
      try clear hx426_1
      try clear hx426_2
      try clear hx426_3
      try clear hx427_0
      try clear hx427_1
      try clear hx427_2
      try clear hx427_3
      try clear p2
      try clear p4
      try clear p426
      try clear p427
      try clear q4
      try clear q426
      try clear q427
      obtain ⟨x4_3, x67_3, rfl, HA, HK3, HO_4, BK424, BK425, HB⟩ := hrel
      cases gk with
      | zero => exact absurd HA.out (by simp [impl_RecordsOf.l1])
      | succ k3 =>
       have H := HA.out
       clear HA
       simp only [impl_RecordsOf.l1] at H
       by_cases c37 : x67_3 < (((rd_T83 l0 x17_1).f3).length : Int)
       case pos =>
        rw [if_pos c37] at H
        have c37b0 := decide_eq_true c37
        clear c37
        by_cases c38 : 0 ≤ x67_3
        case neg =>
         rw [if_neg c38] at H
         exact absurd H (by simp)
        rw [if_pos c38] at H
        have c38b0 := decide_eq_true c38
        clear c38
        by_cases c39 : x67_3 < (((rd_T83 l0 x17_1).f3).length : Int)
        case neg =>
         rw [if_neg c39] at H
         exact absurd H (by simp)
        rw [if_pos c39] at H
        have c39b0 := decide_eq_true c39
        clear c39
        by_cases c40 : x4_3.length < 2932031007402
        case neg =>
         rw [if_neg c40] at H
         exact absurd H (by simp)
        rw [if_pos c40] at H
        have LMc40 := a0_ c40
        clear c40
        obtain ⟨y430, hy430⟩ : ∃ y_ : List (S45), y_ = (x4_3 ++ [(⟨((rd_T83 l0 x17_1).f0), ((rd_T83 l0 x17_1).f1), ((rd_T83 l0 x17_1).f2), rdOf ByteArray.empty ((rd_T83 l0 x17_1).f3) x67_3⟩ : S45)]) := ⟨_, rfl⟩
        rw [← hy430] at H
        have Ny430 := a0_ hy430
        clear hy430
        have H' := a0_ H
        clear H
        have p429 := t0_ (x67_3)
        have q429 := tl_ (x67_3) (((rd_T83 l0 x17_1).f3).length)
        obtain ⟨ad429, e429, hx429_0⟩ := Kd.at_string HR423_3.out x67_3 (of_eq_true p429) (of_eq_true q429)
        cases e429
        replace hx429_0 := (HB.out.cell (World.block_lt_of_cell? w _ hx429_0)).trans hx429_0
        have hnb41 := NB424_425.out
        have hnc41 := NB425_424.out
        obtain ⟨_, _, _, _, _, _, _, _⟩ := bk4_ BK424.out
        go_wp2_with (first | ((with_reducible refine gate_builtin (b := .append) (xs := #[.tmp 71, .tmp 80]) rfl ?_); (try (refine gate_guard (by rfl) ?_; dsimp only)); at_builtin; refine Kd.R_append k45 (w0 := w) w.heap.size rfl (.tmp 71) (.tmp 80) 27 45 (.agg #[(.string ⟨#[]⟩), (.int .i64 0), (.int .i64 0), (.string ⟨#[]⟩)]) 48 rfl Tryz.underlying27 info45 rfl (by decide) (by omega) u4 x4_3 (⟨((rd_T83 l0 x17_1).f0), ((rd_T83 l0 x17_1).f1), ((rd_T83 l0 x17_1).f2), rdOf ByteArray.empty ((rd_T83 l0 x17_1).f3) x67_3⟩ : S45) [.string ((rd_T83 l0 x17_1).f0), .int .i64 ((rd_T83 l0 x17_1).f1), .int .i64 ((rd_T83 l0 x17_1).f2), .string (rdOf ByteArray.empty ((rd_T83 l0 x17_1).f3) x67_3)] (fun k_ => k_ ≠ gb425) (fun _ => False) rfl rfl ?aP (fun _ hk => hk.elim) ?aF ?aO ?aB ?aS ?aL ?_; (case aP => exact k45_mkM _ _ _ (⟨((rd_T83 l0 x17_1).f0), ((rd_T83 l0 x17_1).f1), ((rd_T83 l0 x17_1).f2), rdOf ByteArray.empty ((rd_T83 l0 x17_1).f3) x67_3⟩ : S45)); (case aB => exact bq1_); (case aF => exact (fun k_ hk => Kd.freshB (g := gb425) (o := .cells #[.string ((rd_T83 l0 x17_1).f0), .int .i64 ((rd_T83 l0 x17_1).f1), .int .i64 0, .string (⟨#[]⟩ : ByteArray)] 45 (0, 0)) (kB_ BK425.out) k_ hk)); (case aO => exact (kR_ HO_4.out)); (case aS => exact (below_size bq1_)); (case aL => have := LMc40.out; omega); intro v431 w43 ho hb hg hat; rw [← Ny430.out] at ho; replace BK424 := a0_ (blk_grown (g := gb424) (o := .cells #[.string ((rd_T83 l0 x17_1).f0), .int .i64 ((rd_T83 l0 x17_1).f1), .int .i64 ((rd_T83 l0 x17_1).f2), .slice (some ad429) ((rd_T83 l0 x17_1).f3).length c423_3] 83 (0, 0)) (kB_ BK424.out) hg (Kd.R_ne HO_4.out BK424.out (by decide))); replace BK425 := a0_ (blk_grown (g := gb425) (o := .cells #[.string ((rd_T83 l0 x17_1).f0), .int .i64 ((rd_T83 l0 x17_1).f1), .int .i64 0, .string (⟨#[]⟩ : ByteArray)] 45 (0, 0)) (kB_ BK425.out) hg (Kd.R_away HO_4.out (fun _ hk => hk))); replace HB := a0_ (hb); have HO432 := a0_ (ho); clear HO_4; clear ho hb hg hat))
        go_roundg k3
        case measure => have := HK1.out; have := HJ7.out; have := HK3.out; omega
        case rel => exact ⟨(y430), (wrap64 (x67_3 + 1)), rs_, H', jn_ HK1 HJ7 HK3, ⟨kR_ HO432.out⟩, ⟨bz_⟩, ⟨bz_⟩, ⟨bq1_⟩⟩
       rw [if_neg c37] at H
       have c37b0 := decide_eq_false c37
       clear c37
       by_cases c44 : 0 ≤ (x4_1.length : Int)
       case neg =>
        rw [if_neg c44] at H
        exact absurd H (by simp)
       rw [if_pos c44] at H
       have c44b0 := eq_true c44
       have c44b1 := decide_eq_true c44
       clear c44
       by_cases c45 : (x4_1.length : Int) ≤ (x4_3.length : Int)
       case neg =>
        rw [if_neg c45] at H
        exact absurd H (by simp)
       rw [if_pos c45] at H
       have c45b0 := eq_true c45
       have c45b1 := decide_eq_true c45
       clear c45
       obtain ⟨y433, hy433⟩ : ∃ y_ : List (S45), y_ = (x4_3.drop ((x4_1.length : Int) : Int).toNat) := ⟨_, rfl⟩
       rw [← hy433] at H
       have Ny433 := a0_ hy433
       clear hy433
       obtain ⟨t437, A46, H⟩ := ob_ H
       by_cases c47 : t437 = true
       case neg =>
        replace c47 := Bool.eq_false_iff.mpr c47
        subst c47
        rw [if_neg ff_] at H
        simp only [Option.some.injEq, Prod.mk.injEq] at H
        obtain ⟨rfl, rfl⟩ := H
        obtain ⟨Ao52, co52, eo52⟩ := Kd.R_slice HO_4.out
        subst eo52
        have q51 : ((x4_1.length : Int) : Int) ≤ ((x4_3.length : Int) : Int) := dec_
        obtain ⟨i051, hi051, _, hsz51, _⟩ := info_parts info45
        have hroom51 : x4_3.length ≤ co52 := (Kd.R_reads' HO_4.out).2.1
        have hC51 : Kd.C k45 _ Ao52 x4_3.length x4_3 := (Kd.R_reads' HO_4.out).2.2
        have q051 : (0 : Int) ≤ ((x4_1.length : Int) : Int) := dec_
        have hcut51 := cut_from (P := Tryz.prog) 27 45 .i64 Tryz.underlying27 hi051 4 hsz51 Ao52 x4_3.length co52 (x4_1.length : Int) q051 q51
        have hr51 := Kd.C_drop (m := ((x4_1.length : Int) : Int).toNat) (c := co52) hC51 (by omega) hroom51
        obtain ⟨A51, hA51⟩ : ∃ A1, A1 = (if co52 = ((x4_1.length : Int) : Int).toNat then Ao52 else (Ao52 : Option Addr).map (·.add (((x4_1.length : Int) : Int).toNat * 4))) := ⟨_, rfl⟩
        obtain ⟨c51, hc51⟩ : ∃ c1, c1 = co52 - ((x4_1.length : Int) : Int).toNat := ⟨_, rfl⟩
        have hy51 : y433.length = x4_3.length - ((x4_1.length : Int) : Int).toNat := (by rw [Ny433.out, List.length_drop] <;> omega)
        rw [show (x4_3).drop ((x4_1.length : Int) : Int).toNat = y433 from Ny433.out.symm] at hr51
        replace hr51 : Kd.C k45 _ A51 y433.length y433 := (by rw [hA51]; exact hr51)
        rw [← hy51, ← hA51, ← hc51] at hcut51
        have HR436 := a0_ hr51
        have HC436 := a0_ (show y433.length ≤ c51 from by rw [hy51, hc51]; exact Nat.sub_le_sub_right hroom51 _)
        clear hr51 hC51 hroom51 hi051 hsz51 hc51
        have KY51 := a0_ hy51
        have KA51 := a0_ hA51
        clear hy51 hA51
        have KL51 := a0_ (show ((x4_1.length : Int) : Int).toNat ≤ x4_3.length from by omega)
        replace q51 := eq_true q51
        go_wp2_with (first | ((with_reducible refine gt_ 66 rfl ?_); refine gs_ 86 Tryz.func66 #[.slice A51 y433.length c51] ?_; (with_reducible refine (impl_areRising.calls k3 _ _ y433 false _ ?side1 ?side2 A46.out).mono ?_); (case side1 => exact kD_ HR436.out); (case side2 => exact HC436.out); rintro e w53 ⟨rfl, hb⟩; refine ⟨_, rfl, ?_⟩; replace HO_4 := a0_ (Kd.R_below (kR_ HO_4.out) hb); replace BK424 := a0_ (bkB_ BK424 hb); replace BK425 := a0_ (bkB_ BK425 hb); replace HR436 := a0_ (Kd.C_below (kD_ HR436.out) hb); replace HB := a0_ (below_step bq1_ hb); clear hb))
        go_ret2
        exact ⟨_, rr_, by first | exact Kd.R_nil _ _ _ _ _ | exact Kd.N_nil _ _ _ _ _ | exact Kd.V_nil _ _ _ _ _ | exact Kd.Q_nil _ _ _ _ _ | exact Kd.S_nil _ _ _ _ _, bq1_⟩
       subst c47
       rw [if_pos rfl] at H
       have H' := a0_ H
       clear H
       obtain ⟨Ao49, co49, eo49⟩ := Kd.R_slice HO_4.out
       subst eo49
       have q48 : ((x4_1.length : Int) : Int) ≤ ((x4_3.length : Int) : Int) := dec_
       obtain ⟨i048, hi048, _, hsz48, _⟩ := info_parts info45
       have hroom48 : x4_3.length ≤ co49 := (Kd.R_reads' HO_4.out).2.1
       have hC48 : Kd.C k45 _ Ao49 x4_3.length x4_3 := (Kd.R_reads' HO_4.out).2.2
       have q048 : (0 : Int) ≤ ((x4_1.length : Int) : Int) := dec_
       have hcut48 := cut_from (P := Tryz.prog) 27 45 .i64 Tryz.underlying27 hi048 4 hsz48 Ao49 x4_3.length co49 (x4_1.length : Int) q048 q48
       have hr48 := Kd.C_drop (m := ((x4_1.length : Int) : Int).toNat) (c := co49) hC48 (by omega) hroom48
       obtain ⟨A48, hA48⟩ : ∃ A1, A1 = (if co49 = ((x4_1.length : Int) : Int).toNat then Ao49 else (Ao49 : Option Addr).map (·.add (((x4_1.length : Int) : Int).toNat * 4))) := ⟨_, rfl⟩
       obtain ⟨c48, hc48⟩ : ∃ c1, c1 = co49 - ((x4_1.length : Int) : Int).toNat := ⟨_, rfl⟩
       have hy48 : y433.length = x4_3.length - ((x4_1.length : Int) : Int).toNat := (by rw [Ny433.out, List.length_drop] <;> omega)
       rw [show (x4_3).drop ((x4_1.length : Int) : Int).toNat = y433 from Ny433.out.symm] at hr48
       replace hr48 : Kd.C k45 _ A48 y433.length y433 := (by rw [hA48]; exact hr48)
       rw [← hy48, ← hA48, ← hc48] at hcut48
       have HR436 := a0_ hr48
       have HC436 := a0_ (show y433.length ≤ c48 from by rw [hy48, hc48]; exact Nat.sub_le_sub_right hroom48 _)
       clear hr48 hC48 hroom48 hi048 hsz48 hc48
       have KY48 := a0_ hy48
       have KA48 := a0_ hA48
       clear hy48 hA48
       have KL48 := a0_ (show ((x4_1.length : Int) : Int).toNat ≤ x4_3.length from by omega)
       replace q48 := eq_true q48
       go_wp2_with (first | ((with_reducible refine gt_ 66 rfl ?_); refine gs_ 86 Tryz.func66 #[.slice A48 y433.length c48] ?_; (with_reducible refine (impl_areRising.calls k3 _ _ y433 true _ ?side1 ?side2 A46.out).mono ?_); (case side1 => exact kD_ HR436.out); (case side2 => exact HC436.out); rintro e w50 ⟨rfl, hb⟩; refine ⟨_, rfl, ?_⟩; replace HO_4 := a0_ (Kd.R_below (kR_ HO_4.out) hb); replace BK424 := a0_ (bkB_ BK424 hb); replace BK425 := a0_ (bkB_ BK425 hb); replace HR436 := a0_ (Kd.C_below (kD_ HR436.out) hb); replace HB := a0_ (below_step bq1_ hb); clear hb))
       go_roundg k3
       case measure => have := HK1.out; have := HJ7.out; have := HK3.out; omega
       case rel => exact ⟨(x4_3), (wrap64 (x17_1 + 1)), rs_, H', jn_ HK1 HJ7 HK3, ⟨kR_ (Kd.R_mono HO_4.out (fun _ hk => trivial))⟩, ⟨bq1_⟩⟩
end Go.Proofs.YtiegkjimpclmaaaGreatDoor.P
namespace Go.Proofs.YtiegkjimpclmaaaGreatDoor.P
def itoaB (n : Int) : ByteArray := ⟨(Lib.itoa n).toArray⟩
def partsI (b : ByteArray) : List ByteArray := (bytesOf b).map itoaB
def preI (k : Nat) (kind : Int) (b : ByteArray) : Option ByteArray :=
 if kind = 1 ∧ b.size = 4 then some (mkB (joinL (partsI b)))
 else (if kind = 2 ∨ kind = 5 then impl_nameIn.f k b
 else (if kind = 6 ∧ b.size = 4 then (impl_number.f k b).bind fun n => strconv_Itoa.f n
 else (if kind = 15 ∧ 2 < b.size then (impl_number.f k (b.extract 0 2)).bind fun n => (strconv_Itoa.f n).bind fun t => (impl_nameIn.f k (b.extract 2 b.size)).bind fun s => (if t.size + s.size ≤ 1000000 then some ((t ++ (⟨#[32]⟩ : ByteArray)) ++ s) else none)
 else (if kind = 16 ∧ 0 < b.size then some (b.extract 1 b.size) else some (⟨#[]⟩ : ByteArray)))))
def finI (k : Nat) (kind : Int) (b d : ByteArray) : Option (ByteArray × Bool) := (impl_DataBytes.f k kind d).bind fun q => some (if q.2 = true ∧ q.1.toList = b.toList then (d, true) else badD)
def impl_ReadData.f (k : Nat) (kind : Int) (b : ByteArray) : Option (ByteArray × Bool) := if 100 < b.size then some badD else (preI k kind b).bind fun d => finI k kind b d
theorem preI.mono (a0 : Int) (a1 : ByteArray) (k : Nat) : LeO (preI k a0 a1) (preI (k + 1) a0 a1) := by
 unfold preI
 exact LeO.ite (LeO.refl _) (LeO.ite (impl_nameIn.mono _ _) (LeO.ite (LeO.bind (impl_number.mono _ _) fun _ => LeO.refl _) (LeO.ite (LeO.bind (impl_number.mono _ _) fun _ => LeO.bind (LeO.refl _) fun _ => LeO.bind (impl_nameIn.mono _ _) fun _ => LeO.refl _) (LeO.refl _))))
end Go.Proofs.YtiegkjimpclmaaaGreatDoor.P
namespace Go.Proofs.YtiegkjimpclmaaaGreatDoor.P
open Go.Shelf
attribute [local go_sem] Oper.semAt_some
abbrev IR := S45
theorem sq_size {a b c d : World} (h : a.heap.size ≤ b.heap.size) (o : Obj) (k : (b.alloc o).heap.size ≤ c.heap.size) : a.heap.size ≤ c.heap.size := by
  rw [World.size_alloc] at k; omega
theorem seq1_in (F : Fence) (n : Nat) (h7 : F.fn 139) (hro : F.round = none) (hn : 1 ≤ n) (l Bs : Nat) (w0 : World) (A : Option Addr) (cap : Nat) (xs : List IR) (hrow : Kd.C k45 w0 A xs.length xs) (hmax : xs.length ≤ 1048576) (J Jx : List IR → World → Prop)
    (hY : ∀ pre x W, J pre W → pre.length < xs.length → YieldAt F (n - 1) Tryz.prog l #[encR x] W fun e W' =>
      (e = .returned (.bool true) ∧ J (pre ++ [x]) W' ∧ Below w0.heap.size W W') ∨ (e = .returned (.bool false) ∧ Jx (pre ++ [x]) W'))
    (W : World) (hJ : AbidesFrom W.heap.size J) (hB : Below w0.heap.size w0 W) (hBs : W.cell? ⟨Bs, 0, none⟩ = some (.slice A xs.length cap)) (h0 : J [] W) :
    CallsIn F n Tryz.prog 139 #[.func (.yield l) #[] #[], .pointer (some ⟨Bs, 0, none⟩)] W fun e W' => (∃ v, e = .returned v) ∧
      ((∃ ys, ys = xs ∧ J ys W') ∨ (∃ pre, pre <+: xs ∧ Jx pre W')) := by
  have HG := Aside0.mk hmax
  have hreach : xs.length * 8 ≤ 140737488351232 := by omega
  clear hmax
  refine callsIn_of_wp Tryz.func139 rfl h7 ?_ hro
  simp only [Tryz.ntmps139, List.size_toArray, List.length_cons, List.length_nil, Nat.reduceAdd, Nat.reduceSub, Array.replicate_succ, Array.replicate_zero, List.push_toArray, List.append_toArray, List.nil_append, List.cons_append]
  gi_wp2
  gi_loopw [7] (fun i wr => ∃ kk : Nat, kk ≤ xs.length ∧ i = .int .i64 kk ∧ J (xs.take kk) wr ∧ Below w0.heap.size w0 wr ∧ W.heap.size ≤ wr.heap.size)
    (fun i _ => xs.length - (intOf i).toNat)
  case atStart => exact ⟨0, Nat.zero_le _, rfl, h0, hB, Nat.le_refl _⟩
  case round =>
    obtain ⟨kk, hkk, rfl, hJs, hnx, hsz⟩ := hrel
    by_cases hlt : kk < xs.length
    · have hltz : (kk : Int) < (xs.length : Int) := by omega
      obtain ⟨ad, e0, hx0, hx1, hx2, hx3⟩ := at_T45 hrow (kk : Int) (by omega) hltz
      cases e0
      have l0 := (hnx.cell (World.block_lt_of_cell? _ _ hx0)).trans hx0
      have l1 := (hnx.cell (World.block_lt_of_cell? _ _ hx1)).trans hx1
      have l2 := (hnx.cell (World.block_lt_of_cell? _ _ hx2)).trans hx2
      have l3 := (hnx.cell (World.block_lt_of_cell? _ _ hx3)).trans hx3
      clear hx0 hx1 hx2 hx3
      simp only [Int.toNat_natCast] at l0 l1 l2 l3
      generalize hy : rd_T45 xs kk = y at l0 l1 l2 l3
      have hty : xs.take (kk + 1) = xs.take kk ++ [y] := by
        rw [List.take_succ_eq_append_getElem hlt, ← hy]
        simp [rd_T45, List.getElem?_eq_getElem hlt]
      have HT := Aside0.mk hty
      clear hty hy
      obtain ⟨fn, tmps, assign, body, hy', hR⟩ := hY (xs.take kk) y (wr.alloc (.cells #[.string y.f0, .int .i64 y.f1, .int .i64 y.f2, .string y.f3] 45)) (hJ _ _ _ none hJs (World.grownBy_alloc wr _ none) (fun r e => by cases e)) (by rw [List.length_take]; omega)
      unfold encR at hy'
      gi_wp2
      as_aux_lemma =>
      refine hR.mono ?_
      rintro e W3 (⟨rfl, hJ3, hk3⟩ | ⟨rfl, hJx3⟩)
      · have hnx3 := Aside0.mk ((hnx.alloc hnx.size (.cells #[.string y.f0, .int .i64 y.f1, .int .i64 y.f2, .string y.f3] 45)).trans hk3)
        have hsz3 := Aside0.mk (sq_size (d := W) hsz _ hk3.size)
        clear hR hy' hk3
        gi_wp2
        go_roundw
        case rel => exact ⟨kk + 1, hlt, by simp, by rw [HT.out]; exact hJ3, hnx3.out, hsz3.out⟩
        case measure => simp [intOf]; omega
      · gi_wp2
        refine bodyPost_ret (results_none rfl _ _ _) rfl ?_
        exact ⟨⟨_, rfl⟩, .inr ⟨_, by rw [← HT.out]; exact List.take_prefix _ _, hJx3⟩⟩
    · obtain rfl : kk = xs.length := by omega
      gi_wp2
      go_end0
      rw [List.take_length] at hJs
      exact ⟨⟨_, rfl⟩, .inl ⟨_, rfl, hJs⟩⟩
set_option maxHeartbeats 1000000 in
theorem values_in (F : Fence) (n : Nat) (h5 : F.fn 76) (hro : F.round = none) (a : Option Addr) (len cap : Nat) (w : World) :
    CallsIn F n Tryz.prog 76 #[.slice a len cap] w fun e w' => e = .returned (.func (.func 139) #[] #[.pointer (some ⟨w.heap.size, 0, none⟩)]) ∧ w' = w.alloc (.cells #[.slice a len cap] 27) := by
  refine callsIn_of_wp Tryz.func76 rfl h5 ?_ hro
  simp only [Tryz.ntmps76, List.size_toArray, List.length_cons, List.length_nil, Nat.reduceAdd, Nat.reduceSub, Array.replicate_succ, Array.replicate_zero, List.push_toArray, List.append_toArray, List.nil_append, List.cons_append]
  gi_wp2
  go_ret
  exact ⟨rfl, rfl⟩
theorem seq_stops (F : Fence) (n : Nat) (h7 : F.fn 139) (hro : F.round = none) (hn : 1 ≤ n) (Bs : Nat) (w0 w : World) (A : Option Addr) (cap : Nat) (xs : List IR) (hrow : Kd.C k45 w0 A xs.length xs) (hmax : xs.length ≤ 1048576) (hB : Below w0.heap.size w0 w) (hBs : Bs < w.heap.size)
    (hc : w.cell? ⟨Bs, 0, none⟩ = some (.slice A xs.length cap)) :
    SeqStopsK F n Tryz.prog 139 #[.pointer (some ⟨Bs, 0, none⟩)] (fun x : IR => #[encR x]) (Below w0.heap.size) (fun ys => ys = xs) (fun pre => pre <+: xs) xs.length w := fun l J Jx W hW hJ _ hY h0 =>
  seq1_in F n h7 hro hn l Bs w0 A cap xs hrow hmax J Jx hY W hJ (hB.trans (hW.mono hB.size)) ((hW.cell (p := ⟨Bs, 0, none⟩) hBs).trans hc) h0
end Go.Proofs.YtiegkjimpclmaaaGreatDoor.P
namespace Go.Proofs.YtiegkjimpclmaaaGreatDoor.Pure
open Go.Proofs.YtiegkjimpclmaaaGreatDoor.P
set_option linter.unusedSectionVars false
theorem tail_cons (y : List UInt8) (r : List (List UInt8)) : Lib.joinTail [46] (y :: r) = 46 :: (y ++ Lib.joinTail [46] r) := by simp [Lib.joinTail]
section
variable (s : ByteArray) (hs : s.size ≤ 600)
include hs
end
end Go.Proofs.YtiegkjimpclmaaaGreatDoor.Pure
namespace Go.Proofs.YtiegkjimpclmaaaGreatDoor.Pure
open Go.Proofs.YtiegkjimpclmaaaGreatDoor.P
theorem a_small : ∀ (k i : Nat) (parts : List ByteArray) (out x : ByteArray), impl_DataBytes.l0 k parts out (i : Int) = some (x, true) → (∀ y ∈ parts, y.size ≤ 1048576) → parts.length < 1099511627776 → (i < parts.length → parts.length = 4) ∧ ∀ j (h : j < parts.length), i ≤ j → parts[j].size ≤ 10
 | 0, i, parts, out, x, h, hs, hl => by simp [impl_DataBytes.l0] at h
 | k + 1, i, parts, out, x, h, hs, hl => by
  unfold impl_DataBytes.l0 at h
  by_cases c1 : (i : Int) < (parts.length : Int)
  · have hi : i < parts.length := by omega
    have hsz := hs _ (List.getElem_mem hi)
    obtain ⟨v, hn1, hn2⟩ := number_eq parts[i] 255 (by omega) (by omega) (by omega)
    rw [if_pos c1, if_pos (by omega), td_rd parts i hi, hn1, Option.bind_some] at h
    by_cases hb : (canL parts[i].data.toList && decide ((valL parts[i].data.toList : Int) ≤ 255)) = true
    · rw [if_pos hb] at h
      by_cases h4 : (parts.length : Int) = 4
      · rw [if_pos h4] at h
        obtain ⟨t, ht, h⟩ := Option.bind_eq_some_iff.mp h
        by_cases ho : out.size + t.size ≤ 9223372036854775807
        · rw [if_pos ho, w64n (by omega)] at h
          have ih := a_small k (i + 1) parts _ x h hs hl
          refine ⟨fun _ => by omega, fun j hj hij => ?_⟩
          by_cases e : j = i
          · subst e
            rw [Bool.and_eq_true] at hb
            have hc := hb.1
            unfold canL at hc
            simp only [Bool.and_eq_true, decide_eq_true_eq] at hc
            rw [size_len]
            exact hc.1.1.2
          · exact ih.2 j hj (by omega)
        · rw [if_neg ho] at h; cases h
      · rw [if_neg h4] at h
        cases (Prod.mk.inj (Option.some.inj h)).2
    · rw [if_neg hb] at h
      cases (Prod.mk.inj (Option.some.inj h)).2
  · exact ⟨fun h2 => absurd h2 (by omega), fun j hj hij => absurd hj (by omega)⟩
theorem sum_le : ∀ l : List (List UInt8), (∀ p ∈ l, p.length ≤ 10) → (l.map fun p => 1 + p.length).sum ≤ 11 * l.length
 | [], _ => Nat.le_refl _
 | x :: r, h => by
  have ih := sum_le r fun p hp => h p (List.mem_cons_of_mem _ hp)
  have hx := h x List.mem_cons_self
  rw [List.map_cons, List.sum_cons, List.length_cons]
  omega
theorem can_len {l : List UInt8} {m : Int} (h : (canL l && decide ((valL l : Int) ≤ m)) = true) : l.length ≤ 10 := by
 rw [Bool.and_eq_true] at h
 have hc := h.1
 unfold canL at hc
 simp only [Bool.and_eq_true, decide_eq_true_eq] at hc
 exact hc.1.1.2
theorem cut_sizes {s q1 q2 : ByteArray} {q3 : Bool} (hs : s.size ≤ 1048576) (h : strings_Cut.f s (⟨#[32]⟩ : ByteArray) = some (q1, q2, q3)) : q1.size + q2.size ≤ s.size ∧ s.size ≤ q1.size + q2.size + 1 := by
 unfold strings_Cut.f stringslite_Cut.f internal_stringslite_Index.f at h
 rw [if_pos (show (⟨#[32]⟩ : ByteArray).size = 1 from rfl)] at h
 simp only [Option.bind_some] at h
 rw [show List.headD (⟨#[32]⟩ : ByteArray).data.toList 0 = 32 from rfl, show (⟨#[32]⟩ : ByteArray).size = 1 from rfl] at h
 rcases place_or 32 s.data.toList with ⟨h1, _⟩ | ⟨p, r, h1, _, h3⟩
 · rw [h1, if_neg (by omega)] at h
   simp only [Option.bind_some, Option.some.injEq, Prod.mk.injEq] at h
   obtain ⟨rfl, rfl, _⟩ := h
   exact ⟨Nat.le_refl _, by show s.size ≤ s.size + 0 + 1; omega⟩
 · have hl : p.length + (r.length + 1) = s.size := by rw [size_len, h1]; simp
   rw [h3, show (((1 : Nat) : Int)) = 1 from rfl, w64n (by omega), if_pos (by omega), if_pos (by omega), if_pos (by omega), if_pos (by omega), if_pos (by omega), Int.toNat_natCast, Int.toNat_natCast] at h
   simp only [Option.bind_some, Option.some.injEq, Prod.mk.injEq] at h
   obtain ⟨rfl, rfl, _⟩ := h
   rw [ByteArray.size_extract, ByteArray.size_extract]
   omega
theorem data_small {k : Nat} {kind : Int} {s x : ByteArray} (hs : s.size ≤ 1048576) (h : impl_DataBytes.f k kind s = some (x, true)) : s.size ≤ 100 := by
 unfold impl_DataBytes.f at h
 by_cases c1 : kind = 1
 · rw [if_pos c1] at h
   have hsp : strings_Split.f s (⟨#[46]⟩ : ByteArray) = some ((splitL 46 s.data.toList).map mkB) := by
    unfold strings_Split.f
    rw [if_pos (show (⟨#[46]⟩ : ByteArray).size = 1 from rfl), if_pos (by omega)]
    rfl
   rw [hsp, Option.bind_some] at h
   have hne := splitL_ne 46 s.data.toList
   have hpl : 0 < (splitL 46 s.data.toList).length := List.length_pos_iff.2 hne
   have hlen : (splitL 46 s.data.toList).length ≤ s.size + 1 := by rw [size_len]; exact splitL_len _ _
   have hg := a_small k 0 _ _ _ h (by
    intro y hy
    obtain ⟨q, hq, rfl⟩ := List.mem_map.1 hy
    have := splitL_part 46 _ q hq
    rw [← size_len] at this
    rw [mkB_size]
    omega) (by rw [List.length_map]; omega)
   have h4 := hg.1 (by rw [List.length_map]; exact hpl)
   rw [List.length_map] at h4
   have hsum := sum_le (splitL 46 s.data.toList) (by
    intro p hp
    obtain ⟨j, hj, rfl⟩ := List.mem_iff_getElem.1 hp
    have := hg.2 j (by rw [List.length_map]; exact hj) (Nat.zero_le _)
    rw [List.getElem_map, mkB_size] at this
    exact this)
   rw [split_sum, h4, ← size_len] at hsum
   omega
 · rw [if_neg c1] at h
   by_cases c2 : kind = 2 ∨ kind = 5
   · rw [if_pos c2] at h
     unfold dataNs at h
     rw [target_impl, Option.bind_some] at h
     by_cases ht : targL s.data.toList = true
     · have := good_size (targ_good ht)
       rw [← size_len] at this
       omega
     · rw [if_neg ht] at h
       cases (Prod.mk.inj (Option.some.inj h)).2
   · rw [if_neg c2] at h
     by_cases c6 : kind = 6
     · rw [if_pos c6] at h
       unfold dataSoa at h
       obtain ⟨v, hn1, _⟩ := number_eq s 4294967295 (by omega) (by omega) (by omega)
       rw [hn1, Option.bind_some] at h
       by_cases hb : (canL s.data.toList && decide ((valL s.data.toList : Int) ≤ 4294967295)) = true
       · have := can_len hb
         rw [← size_len] at this
         omega
       · rw [if_neg hb] at h
         cases (Prod.mk.inj (Option.some.inj h)).2
     · rw [if_neg c6] at h
       by_cases c15 : kind = 15
       · rw [if_pos c15] at h
         unfold dataMx at h
         obtain ⟨⟨q1, q2, q3⟩, hc, h⟩ := Option.bind_eq_some_iff.mp h
         have hcut : q1.size + q2.size ≤ s.size ∧ s.size ≤ q1.size + q2.size + 1 := cut_sizes hs hc
         obtain ⟨v, hn1, _⟩ := number_eq q1 65535 (by omega) (by omega) (by omega)
         rw [hn1, Option.bind_some] at h
         by_cases hb : (canL q1.data.toList && decide ((valL q1.data.toList : Int) ≤ 65535)) = true
         · rw [if_pos hb, target_impl, Option.bind_some] at h
           by_cases ht : targL q2.data.toList = true
           · have h1 := good_size (targ_good ht)
             have h2 := can_len hb
             rw [← size_len] at h1 h2
             omega
           · rw [if_neg ht] at h
             cases (Prod.mk.inj (Option.some.inj h)).2
         · rw [if_neg hb] at h
           cases (Prod.mk.inj (Option.some.inj h)).2
       · rw [if_neg c15] at h
         by_cases c16 : kind = 16
         · rw [if_pos c16] at h
           unfold dataTxt at h
           by_cases h30 : (s.size : Int) > 30
           · rw [if_pos h30] at h
             cases (Prod.mk.inj (Option.some.inj h)).2
           · omega
         · rw [if_neg c16] at h
           cases (Prod.mk.inj (Option.some.inj h)).2
theorem data_full (kind : Int) (s : ByteArray) (hs : s.size ≤ 1048576) : ∃ q, Ev (fun k => spec_l3Bytes.f k kind s) q ∧ Ev (fun k => impl_DataBytes.f k kind s) (if q.2 = true then (q.1, true) else badD) ∧ (q.2 = true → s.size ≤ 100) := by
 obtain ⟨r, ⟨K, h1⟩, h2⟩ := data_both kind s hs
 have h1 : specData K kind s = some r := h1 K (Nat.le_refl _)
 unfold specData at h1
 obtain ⟨q, hq, h1⟩ := Option.bind_eq_some_iff.mp h1
 have hQ : Ev (fun k => spec_l3Bytes.f k kind s) q := Ev.of (fun k => spec_l3Bytes.mono _ _ _) (k := K) hq
 have er : (if q.2 = true then (q.1, true) else badD) = r := by
  by_cases hq2 : q.2 = true
  · rw [if_pos hq2] at h1 ⊢
    exact Option.some.inj h1
  · rw [if_neg hq2] at h1 ⊢
    exact Option.some.inj h1
 refine ⟨q, hQ, by rw [er]; exact h2, fun hq2 => ?_⟩
 rw [if_pos hq2] at er
 obtain ⟨K2, h2⟩ := h2
 have h3 : impl_DataBytes.f K2 kind s = some r := h2 K2 (Nat.le_refl _)
 rw [← er] at h3
 exact data_small hs h3
theorem goodrec_both (a : ByteArray) (b c : Int) (d : ByteArray) (ha : a.size ≤ 1048576) (hd : d.size ≤ 1048576) : ∃ r q, Ev (fun k => spec_GoodRecord.f k a b c d) r ∧ Ev (fun k => impl_GoodRecord.f k a b c d) r ∧ Ev (fun k => spec_l3Bytes.f k b d) q ∧ Ev (fun k => impl_DataBytes.f k b d) (if q.2 = true then (q.1, true) else badD) ∧ r = (q.2 && (goodL a.data.toList && decide (0 ≤ c ∧ c ≤ 100000))) ∧ (q.2 = true → d.size ≤ 100) := by
 obtain ⟨q, q1, q2, q3⟩ := data_full b d hd
 refine ⟨q.2 && (goodL a.data.toList && decide (0 ≤ c ∧ c ≤ 100000)), q, ?_, ?_, q1, q2, rfl, q3⟩
 · refine Ev.congr (fun k => rfl) (Ev.bind q1 ?_)
   cases hq : q.2 with
   | false => exact Ev.now _
   | true =>
    refine Ev.bind (specGood_ev a (by omega)) ?_
    cases hg : goodL a.data.toList with
    | false => exact Ev.now _
    | true =>
     simp only [if_true, within_spec, Option.bind_some, Bool.true_and]
     exact Ev.now _
 · cases hg : goodL a.data.toList with
   | false =>
    rw [Bool.false_and, Bool.and_false]
    refine Ev.congr (fun k => ?_) (Ev.now _)
    unfold impl_GoodRecord.f impl_GoodName.f
    rw [hg]
    rfl
   | true =>
    by_cases hc : 0 ≤ c ∧ c ≤ 100000
    · rw [decide_eq_true hc, Bool.true_and, Bool.and_true]
      by_cases h100 : (d.size : Int) > 100
      · have hf : q.2 = false := by
         rw [Bool.eq_false_iff]
         intro h
         have := q3 h
         omega
        rw [hf]
        refine Ev.congr (fun k => ?_) (Ev.now _)
        unfold impl_GoodRecord.f impl_GoodName.f
        rw [hg, Option.bind_some, if_pos rfl, within_eq, Option.bind_some, decide_eq_true hc, if_pos rfl, if_pos h100]
      · refine Ev.congr (f := fun k => (impl_DataBytes.f k b d).bind fun bt237 => (some bt237.2)) (fun k => ?_) (Ev.bind q2 ?_)
        · unfold impl_GoodRecord.f impl_GoodName.f
          rw [hg, Option.bind_some, if_pos rfl, within_eq, Option.bind_some, decide_eq_true hc, if_pos rfl, if_neg h100]
        · cases q.2 with
          | false => exact Ev.now _
          | true => exact Ev.now _
    · rw [decide_eq_false hc, Bool.and_false, Bool.and_false]
      refine Ev.congr (fun k => ?_) (Ev.now _)
      unfold impl_GoodRecord.f impl_GoodName.f
      rw [hg, Option.bind_some, if_pos rfl, within_eq, Option.bind_some, decide_eq_false hc, if_neg (by simp)]
theorem data_kind {k : Nat} {kind : Int} {s x : ByteArray} (h : impl_DataBytes.f k kind s = some (x, true)) : 1 ≤ kind ∧ kind ≤ 16 := by
 unfold impl_DataBytes.f at h
 by_cases c : 1 ≤ kind ∧ kind ≤ 16
 · exact c
 · rw [if_neg (by omega), if_neg (by omega), if_neg (by omega), if_neg (by omega), if_neg (by omega)] at h
   cases (Prod.mk.inj (Option.some.inj h)).2
theorem good_parts (a : ByteArray) (b c : Int) (d : ByteArray) (ha : a.size ≤ 1048576) (hd : d.size ≤ 1048576) (h : Ev (fun k => impl_GoodRecord.f k a b c d) true) : a.size ≤ 60 ∧ goodL a.data.toList = true ∧ (1 ≤ b ∧ b ≤ 16) ∧ (0 ≤ c ∧ c ≤ 100000) ∧ d.size ≤ 100 := by
 obtain ⟨r, q, r1, r2, q1, ⟨K, q2⟩, hr, hs⟩ := goodrec_both a b c d ha hd
 have e := Ev.unique h r2
 subst e
 have hr := hr.symm
 rw [Bool.and_eq_true, Bool.and_eq_true, decide_eq_true_eq] at hr
 have hK : impl_DataBytes.f K b d = some (if q.2 = true then (q.1, true) else badD) := q2 K (Nat.le_refl _)
 rw [if_pos hr.1] at hK
 have := good_size hr.2.1
 rw [← size_len] at this
 exact ⟨this, hr.2.1, data_kind hK, hr.2.2, hs hr.1⟩
end Go.Proofs.YtiegkjimpclmaaaGreatDoor.Pure
namespace Go.Proofs.YtiegkjimpclmaaaGreatDoor.P
attribute [local go_sem] max2_int min2_int max_two min_two max_three min_three max_four min_four
end Go.Proofs.YtiegkjimpclmaaaGreatDoor.P
namespace Go.Proofs.YtiegkjimpclmaaaGreatDoor.P
open Go.Shelf
attribute [local go_sem] Oper.semAt_some
def cellsR (x : IR) : List Value := [.string x.f0, .int .i64 x.f1, .int .i64 x.f2, .string x.f3]
theorem cells_snoc (pre : List IR) (x : IR) : (pre ++ [x]).flatMap cellsR = pre.flatMap cellsR ++ cellsR x := by simp
theorem cells4_new (W : World) (x : IR) (j : Nat) (u : Value) (h : (cellsR x)[j]? = some u) : (W.alloc (.cells #[.string x.f0, .int .i64 x.f1, .int .i64 x.f2, .string x.f3] 45)).cell? ((⟨W.heap.size, 0, none⟩ : Addr).add j) = some u := by
  have e : (⟨W.heap.size, 0, none⟩ : Addr).add j = ⟨W.heap.size, j, none⟩ := by simp [Addr.add]; omega
  rw [e, blk_cell (World.alloc_heap_new W _) j, ← h]
  simp [cellsR]
theorem cells_one (x : IR) : ∀ u ∈ cellsR x, u.oneCell' = true := by
  intro u hu
  simp only [cellsR, List.mem_cons, List.not_mem_nil, or_false] at hu
  rcases hu with rfl | rfl | rfl | rfl <;> rfl
def AxR (w : World) (len cap : Nat) (sv : Value) (x : IR) (a' : Act) (W : World) : Prop :=
  ∃ B, a' = { tmps := #[.slice none 0 0, sv, .pointer (some ⟨w.heap.size, 0, none⟩), undef, .slice none 0 0, .pointer (some ⟨B, 0, none⟩), sv, encR x, undef, undef, undef, undef, undef], defers := [] } ∧ w.heap.size < B ∧ W.heap[B]? = some (.cells (cellsR x).toArray 45 (0, 0))
set_option maxHeartbeats 4000000 in
theorem append_in (F : Fence) (n : Nat) (h181 : F.fn 181) (h139 : F.fn 139) (hro : F.round = none) (hn : 3 ≤ n) (Bs : Nat) (w0 : World) (A : Option Addr) (cap : Nat) (xs : List IR) (hrow : Kd.C k45 w0 A xs.length xs) (hmax : xs.length ≤ 1048576)
    (w : World) (hB : Below w0.heap.size w0 w) (hBs : Bs < w.heap.size) (hc : w.cell? ⟨Bs, 0, none⟩ = some (.slice A xs.length cap)) :
    CallsIn F n Tryz.prog 181 #[.slice none 0 0, .func (.func 139) #[] #[.pointer (some ⟨Bs, 0, none⟩)]] w fun e W' => ∃ v, e = .returned v ∧ W'.ownsRow w.heap.size 45 4 v xs.length (xs.flatMap cellsR) ∧ (v = .slice none 0 0 ↔ xs = []) ∧ Below w.heap.size w W' := by
  have h1 : 1 ≤ n := by omega
  refine callsIn_of_wp_marks Tryz.func181 rfl h181 ?_ hro
  simp only [Tryz.ntmps181, List.size_toArray, List.length_cons, List.length_nil, Nat.reduceAdd, Nat.reduceSub, Array.replicate_succ, Array.replicate_zero, List.push_toArray, List.append_toArray, List.nil_append, List.cons_append]
  gi_wp2
  have bO := Boxed.new w 27 (.slice none 0 0)
  have hB1 : Below w.heap.size w (w.alloc (.cells #[.slice none 0 0] 27)) := (Below.refl _ w).alloc (Nat.le_refl _) _
  have hB0 : Below w0.heap.size w0 (w.alloc (.cells #[.slice none 0 0] 27)) := hB.alloc hB.size _
  refine wpIn_rangeFunc_ownH hro h1 (gf := 139) (lb := #[.pointer (some ⟨Bs, 0, none⟩)]) rfl h139 (enters_of Tryz.func139 (by kernel_rfl) rfl)
    (seq_stops F (n - 1) h139 hro (by omega) Bs w0 _ A cap xs hrow hmax hB0 (by simp; omega) ((hB1.cell (p := ⟨Bs, 0, none⟩) hBs).trans hc)) belowK_t (belowK_b (by have := hB.size; simp; omega)) (Below.refl _ _) (fun _ => rfl)
    (fun pre W => (∃ v, Boxed W w.heap.size 27 v ∧ W.ownsRow w.heap.size 45 4 v pre.length (pre.flatMap cellsR) ∧ (v = .slice none 0 0 ↔ pre = [])) ∧ Below w.heap.size w W)
    (fun _ _ _ => False)
    (OwnFrom.and (Own.from (holdsRow_own w.heap.size w.heap.size 27 45 4 (fun pre => pre.length) (fun pre => pre.flatMap cellsR) (fun pre v => v = .slice none 0 0 ↔ pre = [])) _) (ownFrom_below (Nat.le_refl _) (by simp)))
    (fun _ _ _ _ _ hs _ _ => hs)
    ⟨⟨_, bO, World.ownsRow_nil _ _ _ _, by simp⟩, hB1⟩
    (AxR w xs.length cap (.func (.func 139) #[] #[.pointer (some ⟨Bs, 0, none⟩)])) ?ax ?assign ?body ?done ?stop
  case ax =>
    rintro x a' s W W' row ⟨B, e, hlt, hb⟩ hg hr
    refine ⟨B, e, hlt, (hg.block B (Array.getElem?_eq_some_iff.1 hb).1 fun h => ?_).trans hb⟩
    obtain ⟨_, o, ho, hcl⟩ := hr B h.symm
    rw [hb] at ho; cases ho; cases hcl
  case assign =>
    intro l pre x W K hI hK
    obtain ⟨⟨v, hv, hrow', hnil⟩, hBW⟩ := hI
    unfold encR
    gi_wp2
    exact hK _ _ ((KeepsOthers.alloc _ _).from _) ((Below.refl _ W).alloc (Nat.le_trans hB.size hBW.size) _) ⟨⟨v, hv.alloc _, hrow'.alloc _, hnil⟩, hBW.alloc hBW.size _⟩ ⟨W.heap.size, rfl, hv.lt, World.alloc_heap_new W _⟩
  case body =>
    rintro l pre x a' W hl hlr ⟨⟨v, hv, hrow', hnil⟩, hBW⟩ ⟨B, rfl, hlt, hb⟩ hN
    obtain ⟨i0, hi, hz0, hz1, hz2⟩ := info_parts info45
    have hc := hv.cell
    have c0 := (blk_cell hb 0).trans (show _ = some (Value.string x.f0) from rfl)
    have c1 := (blk_cell hb 1).trans (show _ = some (Value.int .i64 x.f1) from rfl)
    have c2 := (blk_cell hb 2).trans (show _ = some (Value.int .i64 x.f2) from rfl)
    have c3 := (blk_cell hb 3).trans (show _ = some (Value.string x.f3) from rfl)
    have hsz := hBW.size
    have hW0 := Nat.le_trans hB.size hBW.size
    unfold encR
    have k1 : pre.length + 1 ≤ maxLen := by simp only [maxLen]; omega
    have k2 : (pre.length + 1) * 48 ≤ 140737488355328 := by omega
    gi_wp2_with (gi_at_builtin; refine wpListIn_append_own _ rfl _ _ 27 rfl w.heap.size 45 i0 (.agg #[.string ⟨#[]⟩, .int .i64 0, .int .i64 0, .string ⟨#[]⟩]) 4 48 Tryz.underlying27 hi hz0 hz1 hz2 rfl (by decide) v _ _ rfl (hrow'.alloc _) ⟨W.heap.size, 0, none⟩ 1 1 (cellsR x) rfl rfl (cells4_new W x) (cells_one x) k1 k2 (by simp; omega) ?_; intro v' w1 hown' hgrow _; obtain ⟨g', cap', rfl⟩ := ownsRow_succ hown'; obtain ⟨hv1, hv2, hr2, hk2, hb2⟩ := hv.appended (by decide) hrow' hBW.size (Nat.le_refl _) hown' hgrow; have hc1 := hv1.cell; have hf1 := hv1.frozen)
    exact ⟨hk2.from _, hb2.mono hB.size, ⟨_, hv2, by rw [cells_snoc, List.length_append]; exact hr2, by simp⟩, hBW.trans hb2⟩
  case done =>
    rintro D ys W hD rfl ⟨⟨v, hv, hrow', hnil⟩, hBW⟩ hK
    have hc := hv.cell
    gi_wp2
    refine ⟨by simp, .inl ⟨_, _, rfl, run_takeDeferred hK, ?_⟩⟩
    exact ⟨_, results_tmp rfl _ _ _, v, rfl, ownsRow_putObj hrow' _ hK rfl, hnil, hBW.trans (belowK_b (w := w) (Nat.le_refl _) W D _ _ (by simp at hD; omega) hK rfl rfl)⟩
  case stop =>
    rintro D c pre W _ _ h _
    exact h.elim
theorem collect_in (F : Fence) (n : Nat) (h137 : F.fn 137) (h181 : F.fn 181) (h139 : F.fn 139) (hro : F.round = none) (hn : 4 ≤ n) (Bs : Nat) (w0 : World) (A : Option Addr) (cap : Nat) (xs : List IR) (hrow : Kd.C k45 w0 A xs.length xs) (hmax : xs.length ≤ 1048576)
    (w : World) (hB : Below w0.heap.size w0 w) (hBs : Bs < w.heap.size) (hc : w.cell? ⟨Bs, 0, none⟩ = some (.slice A xs.length cap)) :
    CallsIn F n Tryz.prog 137 #[.func (.func 139) #[] #[.pointer (some ⟨Bs, 0, none⟩)]] w fun e W' => ∃ v, e = .returned v ∧ W'.ownsRow w.heap.size 45 4 v xs.length (xs.flatMap cellsR) ∧ (v = .slice none 0 0 ↔ xs = []) ∧ Below w.heap.size w W' := by
  refine callsIn_of_wp Tryz.func137 rfl h137 ?_ hro
  simp only [Tryz.ntmps137, List.size_toArray, List.length_cons, List.length_nil, Nat.reduceAdd, Nat.reduceSub, Array.replicate_succ, Array.replicate_zero, List.push_toArray, List.append_toArray, List.nil_append, List.cons_append]
  gi_wp2
  refine ⟨fun _ => by omega, (append_in F (n - 1) h181 h139 hro (by omega) Bs w0 A cap xs hrow hmax w hB hBs hc).mono ?_⟩
  rintro e w' ⟨v, rfl, ho, hnil, hb⟩
  gi_wp2
  go_ret
  exact ⟨_, rfl, ho, hnil, hb⟩
end Go.Proofs.YtiegkjimpclmaaaGreatDoor.P
namespace Go.Proofs.YtiegkjimpclmaaaGreatDoor.Pure
open Go.Proofs.YtiegkjimpclmaaaGreatDoor.P
set_option linter.unusedSectionVars false
inductive Reads (t : ByteArray) : Nat → Nat → List ByteArray → List Int → Nat → Prop
 | fin (a le : Nat) (h : a < t.size) (h0 : byteAt t a = 0) : Reads t a le [] [] (a + 1)
 | ptr (a le : Nat) (ls : List ByteArray) (pl : List Int) (en : Nat) (h : a + 1 < t.size) (h0 : 192 ≤ byteAt t a) (hp : ptrOf t a < le) (hr : Reads t (ptrOf t a) (ptrOf t a) ls pl en) : Reads t a le ls [] (a + 2)
 | lab (a le : Nat) (ls : List ByteArray) (pl : List Int) (en : Nat) (h0 : 0 < byteAt t a) (h1 : byteAt t a < 64) (h2 : a + 1 + byteAt t a ≤ t.size) (hr : Reads t (a + 1 + byteAt t a) le ls pl en) :
  Reads t a le (mkB ((rawL t a).map lowB) :: ls) ((a : Int) :: pl) en
theorem Reads.more {t : ByteArray} {a le : Nat} {ls : List ByteArray} {pl : List Int} {en : Nat} (h : Reads t a le ls pl en) : ∀ le', le ≤ le' → Reads t a le' ls pl en := by
 induction h with
 | fin a le h h0 => exact fun le' _ => .fin a le' h h0
 | ptr a le ls pl en h h0 hp hr ih => exact fun le' hl => .ptr a le' ls pl en h h0 (by omega) hr
 | lab a le ls pl en h0 h1 h2 hr ih => exact fun le' hl => .lab a le' ls pl en h0 h1 h2 (ih le' hl)
theorem Reads.bound {t : ByteArray} {a le : Nat} {ls : List ByteArray} {pl : List Int} {en : Nat} (h : Reads t a le ls pl en) : a < en ∧ en ≤ t.size ∧ (∀ x ∈ pl, (a : Int) ≤ x ∧ x < (en : Int)) ∧ pl.length ≤ ls.length ∧ pl.Pairwise (· < ·) := by
 induction h with
 | fin a le h h0 => exact ⟨by omega, by omega, (fun x hx => by cases hx), Nat.le_refl _, .nil⟩
 | ptr a le ls pl en h h0 hp hr ih => exact ⟨by omega, by omega, (fun x hx => by cases hx), Nat.zero_le _, .nil⟩
 | lab a le ls pl en h0 h1 h2 hr ih =>
  obtain ⟨i1, i2, i3, i4, i5⟩ := ih
  refine ⟨by omega, i2, fun x hx => ?_, by simpa using i4, List.pairwise_cons.2 ⟨fun x hx => by have := i3 x hx; omega, i5⟩⟩
  rcases List.mem_cons.1 hx with rfl | hx
  · omega
  · have := i3 x hx; omega
theorem Reads.place {t : ByteArray} {a le : Nat} {ls : List ByteArray} {pl : List Int} {en : Nat} (h : Reads t a le ls pl en) : ∀ x ∈ pl, ∃ ls1 ls2 pl', ls = ls1 ++ ls2 ∧ Reads t x.toNat le ls2 pl' en := by
 induction h with
 | fin a le h h0 => exact fun x hx => by cases hx
 | ptr a le ls pl en h h0 hp hr ih => exact fun x hx => by cases hx
 | lab a le ls pl en h0 h1 h2 hr ih =>
  intro x hx
  rcases List.mem_cons.1 hx with rfl | hx
  · exact ⟨[], _, _, rfl, .lab a le ls pl en h0 h1 h2 hr⟩
  · obtain ⟨l1, l2, p', e, h'⟩ := ih x hx
    exact ⟨mkB ((rawL t a).map lowB) :: l1, l2, p', by rw [e]; rfl, h'⟩
section
variable (s : ByteArray) (hs : s.size ≤ 600)
include hs
theorem reads_take {a le : Nat} {ls : List ByteArray} {pl : List Int} {en : Nat} (h : Reads s a le ls pl en) : ∀ (L : List ByteArray) (p : List Int) (e : Int), L.length + ls.length ≤ 8 → p.length ≤ L.length →
 Ev (fun k => impl_takeName.l0 k s (a : Int) L p (le : Int) e) ((nameR (L ++ ls)).1, (if e < 0 then p ++ pl else p), (if e < 0 then (en : Int) else e), (nameR (L ++ ls)).2) := by
 induction h with
 | fin a le h h0 =>
  intro L p e hL hp
  have hi := impl_end s hs 0 a L p le e h (by simp at hL; omega) h0
  rw [List.append_nil, List.append_nil, ite_self]
  exact Ev.of (fun k => (impl_takeName.mono_l k).1 _ _ _ _ _ _) hi
 | ptr a le ls pl en h h0 hp' hr ih =>
  intro L p e hL hp
  have := ih L p (endOf e (a + 2)) hL hp
  have he : ¬ endOf e (a + 2) < 0 := by unfold endOf; split <;> omega
  rw [if_neg he, if_neg he] at this
  rw [List.append_nil, ite_self]
  have e2 : endOf e (a + 2) = if e < 0 then ((a + 2 : Nat) : Int) else e := rfl
  rw [e2] at this
  exact Ev.step (fun k => rfl) (Ev.step (g := fun k => impl_takeName.l0 (k + 1) s (a : Int) L p (le : Int) e) (fun k => (impl_ptr s hs k a L p le e (by omega) (by omega) h0 h).trans (if_neg (by omega))) this)
 | lab a le ls pl en h0 h1 h2 hr ih =>
  intro L p e hL hp
  rw [List.length_cons] at hL
  have := ih (L ++ [mkB ((rawL s a).map lowB)]) (plc e p a) e (by simp; omega) (by unfold plc; split <;> simp <;> omega)
  have ep : (if e < 0 then plc e p a ++ pl else plc e p a) = if e < 0 then p ++ (a : Int) :: pl else p := by
   unfold plc
   split
   · simp
   · rfl
  rw [ep, List.append_assoc] at this
  exact Ev.step (fun k => rfl) (Ev.step (fun k => rfl) (Ev.step (g := fun k => impl_takeName.l0 (k + 2) s (a : Int) L p (le : Int) e) (fun k => impl_lab s hs k a L p le e (by omega) (by omega) (by omega) h0 h1 h2) this))
theorem take_reads : ∀ (n a : Nat) (L : List ByteArray) (p : List Int) (le : Nat) (e : Int), le * 10 + (9 - L.length) ≤ n → L.length ≤ 9 → p.length ≤ L.length →
 (∃ ls pl en, Reads s a le ls pl en ∧ L.length + ls.length ≤ 8) ∨ ∃ r, Ev (fun k => impl_takeName.l0 k s (a : Int) L p (le : Int) e) r ∧ r.1 = (⟨#[]⟩ : ByteArray) ∧ r.2.2.2 = false
 | n, a, L, p, le, e, hn, hL, hp => by
  by_cases ho : s.size ≤ a ∨ 8 < L.length
  · exact .inr ⟨failI, Ev.of (fun k => (impl_takeName.mono_l k).1 _ _ _ _ _ _) (impl_out s hs 0 a L p le e ho), rfl, rfl⟩
  · have h1 : a < s.size := by omega
    have h2 : L.length ≤ 8 := by omega
    by_cases v0 : byteAt s a = 0
    · exact .inl ⟨[], [], a + 1, .fin a le h1 v0, by simpa using h2⟩
    · by_cases v1 : 192 ≤ byteAt s a
      · by_cases h3 : a + 1 < s.size
        · by_cases hle : ((ptrOf s a : Nat) : Int) ≥ (le : Int)
          · exact .inr ⟨failI, Ev.of (fun k => (impl_takeName.mono_l k).1 _ _ _ _ _ _) ((impl_ptr s hs 0 a L p le e h1 h2 v1 h3).trans (if_pos hle)), rfl, rfl⟩
          · rcases take_reads (n - 10) (ptrOf s a) L p (ptrOf s a) (endOf e (a + 2)) (by omega) hL hp with ⟨ls, pl, en, g1, g2⟩ | ⟨r, g1, g2⟩
            · exact .inl ⟨ls, [], a + 2, .ptr a le ls pl en h3 v1 (by omega) g1, g2⟩
            · exact .inr ⟨r, Ev.step (fun k => rfl) (Ev.step (g := fun k => impl_takeName.l0 (k + 1) s (a : Int) L p (le : Int) e) (fun k => (impl_ptr s hs k a L p le e h1 h2 v1 h3).trans (if_neg hle)) g1), g2⟩
        · exact .inr ⟨failI, Ev.of (fun k => (impl_takeName.mono_l k).1 _ _ _ _ _ _) (impl_ptr_out s hs 0 a L p le e h1 h2 v1 (by omega)), rfl, rfl⟩
      · by_cases h3 : 64 ≤ byteAt s a ∨ s.size < a + 1 + byteAt s a
        · exact .inr ⟨failI, Ev.of (fun k => (impl_takeName.mono_l k).1 _ _ _ _ _ _) (impl_lab_out s hs 0 a L p le e h1 h2 (by omega) (by omega) h3), rfl, rfl⟩
        · rcases take_reads (n - 1) (a + 1 + byteAt s a) (L ++ [mkB ((rawL s a).map lowB)]) (plc e p a) le e (by simp; omega) (by simp; omega) (by unfold plc; split <;> simp <;> omega) with ⟨ls, pl, en, g1, g2⟩ | ⟨r, g1, g2⟩
          · exact .inl ⟨_, _, _, .lab a le ls pl en (by omega) (by omega) (by omega) g1, by simp at g2 ⊢; omega⟩
          · exact .inr ⟨r, Ev.step (fun k => rfl) (Ev.step (fun k => rfl) (Ev.step (g := fun k => impl_takeName.l0 (k + 2) s (a : Int) L p (le : Int) e) (fun k => impl_lab s hs k a L p le e h1 h2 (by omega) (by omega) (by omega) (by omega)) g1)), g2⟩
 termination_by n => n
 decreasing_by all_goals omega
theorem taken {k a : Nat} {t : ByteArray × List Int × Int × Bool} (h : impl_takeName.f k s (a : Int) = some t) (ht : t.2.2.2 = true) : ∃ ls pl en, Reads s a a ls pl en ∧ ls.length ≤ 8 ∧ nameR ls = (t.1, true) ∧ t.2.1 = pl ∧ t.2.2.1 = (en : Int) := by
 have hE : Ev (fun k => impl_takeName.l0 k s (a : Int) [] [] (a : Int) (-1)) t := Ev.of (fun k => (impl_takeName.mono_l k).1 _ _ _ _ _ _) (k := k) h
 rcases take_reads s hs (a * 10 + 9) a [] [] a (-1) (by simp) (by simp) (by simp) with ⟨ls, pl, en, g1, g2⟩ | ⟨r, g1, g2⟩
 · have g3 := reads_take s hs g1 [] [] (-1) g2 (by simp)
   have e := Ev.unique hE g3
   rw [if_pos (by decide), if_pos (by decide), List.nil_append, List.nil_append] at e
   refine ⟨ls, pl, en, g1, by simpa using g2, ?_, by rw [e], by rw [e]⟩
   rw [e] at ht ⊢
   exact Prod.ext rfl ht
 · rw [Ev.unique hE g1] at ht
   rw [ht] at g2
   cases g2.2
end
theorem label_low {x : List UInt8} (h : isLabelL x = true) : x.map lowB = x := by
 have : ∀ y ∈ x, lowB y = y := by
  intro y hy
  unfold isLabelL at h
  simp only [Bool.or_eq_true, Bool.and_eq_true, beq_iff_eq, List.all_eq_true] at h
  rcases h with h | h
  · rw [h] at hy
    rw [List.mem_singleton.1 hy]
    decide
  · have hy := h.2 y hy
    unfold labelByte at hy
    simp only [Bool.or_eq_true, decide_eq_true_eq, beq_iff_eq] at hy
    unfold lowB
    rw [if_neg]
    rintro ⟨h1, h2⟩
    rcases hy with ((hy | hy) | rfl) | rfl
    · omega
    · omega
    · revert h1; decide
    · revert h2; decide
 rw [List.map_congr_left this, List.map_id']
theorem label_pos {x : List UInt8} (h : isLabelL x = true) : 1 ≤ x.length := by
 unfold isLabelL at h
 simp only [Bool.or_eq_true, Bool.and_eq_true, beq_iff_eq, decide_eq_true_eq] at h
 rcases h with h | h
 · rw [h]; simp
 · exact h.1.1
end Go.Proofs.YtiegkjimpclmaaaGreatDoor.Pure
namespace Go.Proofs.YtiegkjimpclmaaaGreatDoor.Pure
open Go.Proofs.YtiegkjimpclmaaaGreatDoor.P
abbrev LRec := S91
abbrev IRec := S45
def conv (x : LRec) : IRec := ⟨x.f0, x.f1, x.f2, x.f3⟩
theorem rdI (l : List IRec) (i : Nat) (h : i < l.length) : rd_T45 l (i : Int) = l[i] := by
 unfold rd_T45
 rw [Int.toNat_natCast, List.getD_eq_getElem?_getD, List.getElem?_eq_getElem h, Option.getD_some]
def Small (x : ByteArray) : Prop := x.size ≤ 1048576
def cmpI (a b : Int) : Int := if a < b then -1 else (if b < a then 1 else 0)
theorem cmpI_eq (a b : Int) : cmp_Compare_int.f a b = some (cmpI a b) := by
 unfold cmp_Compare_int.f cmp_isNaN_int.f cmpI
 simp only [bne_self_eq_false, Option.bind_some, Bool.false_eq_true, if_false]
 by_cases h : a < b
 · rw [if_pos h, if_pos h]
 · rw [if_neg h, if_neg h]
   by_cases h2 : b < a
   · rw [if_pos h2, if_pos h2]
   · rw [if_neg h2, if_neg h2]
def or2 (a b : Int) : Int := if a = 0 then b else a
theorem or_two (a b : Int) : Ev (fun k => cmp_Or_int.f k [a, b]) (or2 a b) := by
 refine Ev.of (fun k => cmp_Or_int.mono _ _) (k := 3) ?_
 show cmp_Or_int.f 3 [a, b] = _
 unfold or2
 by_cases h : a = 0
 · by_cases h2 : b = 0
   · simp [cmp_Or_int.f, cmp_Or_int.l0, rd, wrap64, h, h2]
   · simp [cmp_Or_int.f, cmp_Or_int.l0, rd, wrap64, h, h2]
 · simp [cmp_Or_int.f, cmp_Or_int.l0, rd, wrap64, h]
theorem or_three (a b c : Int) : Ev (fun k => cmp_Or_int.f k [a, b, c]) (or2 a (or2 b c)) := by
 refine Ev.of (fun k => cmp_Or_int.mono _ _) (k := 4) ?_
 show cmp_Or_int.f 4 [a, b, c] = _
 unfold or2
 by_cases h : a = 0
 · by_cases h2 : b = 0
   · by_cases h3 : c = 0
     · simp [cmp_Or_int.f, cmp_Or_int.l0, rd, wrap64, h, h2, h3]
     · simp [cmp_Or_int.f, cmp_Or_int.l0, rd, wrap64, h, h2, h3]
   · simp [cmp_Or_int.f, cmp_Or_int.l0, rd, wrap64, h, h2]
 · simp [cmp_Or_int.f, cmp_Or_int.l0, rd, wrap64, h]
theorem cmpB_eq : ∀ x y : List UInt8, Lib.compareBytes x y = if x = y then 0 else (if Op.bytesLess x y = true then -1 else 1)
 | [], [] => by simp [Lib.compareBytes]
 | [], _ :: _ => by simp [Lib.compareBytes, Op.bytesLess]
 | _ :: _, [] => by simp [Lib.compareBytes, Op.bytesLess]
 | a :: x, b :: y => by
  have ih := cmpB_eq x y
  unfold Lib.compareBytes Op.bytesLess
  by_cases h1 : a < b
  · have h3 : ¬ a = b := by rintro rfl; rw [UInt8.lt_iff_toNat_lt] at h1; omega
    simp [h1, h3]
  · by_cases h2 : b < a
    · have h3 : ¬ a = b := by rintro rfl; rw [UInt8.lt_iff_toNat_lt] at h2; omega
      simp [h1, h2, h3]
    · have h3 : a = b := by rw [UInt8.lt_iff_toNat_lt] at h1 h2; apply UInt8.toNat_inj.1; omega
      subst h3
      simp [h1, ih]
def ordR (a : List UInt8) (b c : Int) (x : List UInt8) (a' : List UInt8) (b' c' : Int) (x' : List UInt8) : Int := or2 (or2 (ordL a a') (cmpI b b')) (or2 (Lib.compareBytes x x') (cmpI c c'))
theorem good_bytes (b : Int) (d : ByteArray) (a : ByteArray) (c : Int) (ha : a.size ≤ 1048576) (hd : d.size ≤ 1048576) (h : Ev (fun k => impl_GoodRecord.f k a b c d) true) : ∃ x : ByteArray, Ev (fun k => spec_l3Bytes.f k b d) (x, true) ∧ Ev (fun k => impl_DataBytes.f k b d) (x, true) := by
 obtain ⟨r, q, r1, r2, q1, q2, hr, hs⟩ := goodrec_both a b c d ha hd
 have e := Ev.unique h r2
 subst e
 have hr := hr.symm
 rw [Bool.and_eq_true] at hr
 obtain ⟨x, y⟩ := q
 obtain rfl : y = true := hr.1
 exact ⟨x, q1, q2⟩
theorem implOrd_ev (a : ByteArray) (b c : Int) (d : ByteArray) (a' : ByteArray) (b' c' : Int) (d' x x' : ByteArray) (ha : a.size ≤ 1048576) (ha' : a'.size ≤ 1048576) (hx : Ev (fun k => impl_DataBytes.f k b d) (x, true)) (hx' : Ev (fun k => impl_DataBytes.f k b' d') (x', true)) :
 Ev (fun k => impl_compareRecords.f k a b c d a' b' c' d') (ordR a.data.toList b c x.data.toList a'.data.toList b' c' x'.data.toList) := by
 have hk : Ev (fun k => impl_compareKeys.f k a b c d a' b' c' d') (or2 (ordL a.data.toList a'.data.toList) (cmpI b b')) := by
  refine Ev.congr (fun k => rfl) (Ev.bind (implComp_ev a a' ha ha') ?_)
  simp only [cmpI_eq, Option.bind_some]
  exact Ev.bind (or_two _ _) (Ev.now _)
 have hd : ∀ {b : Int} {d x : ByteArray}, Ev (fun k => impl_DataBytes.f k b d) (x, true) → Ev (fun k => impl_dataBytes.f k b d) x := fun h => Ev.congr (fun k => rfl) (Ev.bind h (Ev.now _))
 refine Ev.congr (fun k => rfl) (Ev.bind hk (Ev.bind (hd hx) (Ev.bind (hd hx') ?_)))
 unfold strings_Compare.f
 simp only [cmpI_eq, Option.bind_some]
 exact Ev.bind (or_three _ _ _) (Ev.now _)
theorem less_eq (p : Bool) : spec_l3Less.f p = some (if p = true then -1 else 1) := by
 unfold spec_l3Less.f
 cases p <;> rfl
theorem cmpI_ne {a b : Int} (h : ¬ a = b) : cmpI a b = if decide (a < b) = true then -1 else 1 := by
 unfold cmpI
 by_cases h1 : a < b
 · rw [if_pos h1, if_pos (decide_eq_true h1)]
 · rw [if_neg h1, if_pos (by omega), if_neg (by simpa using h1)]
theorem cmpI_self (a : Int) : cmpI a a = 0 := by
 unfold cmpI
 rw [if_neg (by omega), if_neg (by omega)]
theorem specOrd_ev (a : ByteArray) (b c : Int) (d : ByteArray) (a' : ByteArray) (b' c' : Int) (d' x x' : ByteArray) (ha : a.size ≤ 1048576) (ha' : a'.size ≤ 1048576) (ga : goodL a.data.toList = true) (ga' : goodL a'.data.toList = true) (hx : Ev (fun k => spec_l3Bytes.f k b d) (x, true)) (hx' : Ev (fun k => spec_l3Bytes.f k b' d') (x', true)) :
 Ev (fun k => spec_l3Compare.f k a b c d a' b' c' d') (ordR a.data.toList b c x.data.toList a'.data.toList b' c' x'.data.toList) := by
 refine Ev.congr (fun k => rfl) (Ev.bind (specComp_ev a a' ha ha' ga ga') ?_)
 unfold ordR
 by_cases h0 : ordL a.data.toList a'.data.toList = 0
 · simp only [if_pos h0]
   refine Ev.bind hx (Ev.bind hx' ?_)
   simp only [less_eq, Option.bind_some]
   rw [h0]
   by_cases h1 : b = b'
   · subst h1
     simp only [if_true]
     rw [cmpI_self, cmpB_eq, Lib.toList_data, Lib.toList_data]
     by_cases h2 : x.data.toList = x'.data.toList
     · simp only [if_pos h2]
       by_cases h3 : c = c'
       · subst h3
         simp only [if_true]
         rw [cmpI_self]
         exact Ev.now _
       · simp only [if_neg h3]
         rw [cmpI_ne h3]
         exact Ev.now _
     · simp only [if_neg h2]
       by_cases h4 : Op.bytesLess x.data.toList x'.data.toList = true
       · simp only [if_pos h4]; exact Ev.now _
       · simp only [if_neg h4]; exact Ev.now _
   · simp only [if_neg h1]
     rw [cmpI_ne h1]
     by_cases h4 : decide (b < b') = true
     · simp only [if_pos h4]; exact Ev.now _
     · simp only [if_neg h4]; exact Ev.now _
 · simp only [if_neg h0]
   have e : ∀ y z : Int, or2 (or2 (ordL a.data.toList a'.data.toList) y) z = ordL a.data.toList a'.data.toList := fun y z => by
    unfold or2; rw [if_neg h0, if_neg h0]
   rw [e]
   exact Ev.now _
theorem or2_neg (a b : Int) : or2 (-a) (-b) = - or2 a b := by
 unfold or2
 by_cases h : a = 0
 · rw [if_pos (by omega), if_pos h]
 · rw [if_neg (by omega), if_neg h]
theorem or2_zero (a b : Int) : or2 a b = 0 ↔ a = 0 ∧ b = 0 := by
 unfold or2
 by_cases h : a = 0
 · rw [if_pos h]; exact ⟨fun e => ⟨h, e⟩, fun e => e.2⟩
 · rw [if_neg h]; exact ⟨fun e => absurd e h, fun e => absurd e.1 h⟩
theorem cmpI_neg (a b : Int) : cmpI b a = - cmpI a b := by
 unfold cmpI
 by_cases h : a < b
 · rw [if_neg (by omega), if_pos h, if_pos h]; rfl
 · by_cases h2 : b < a
   · rw [if_pos h2, if_neg h, if_pos h2]
   · rw [if_neg h2, if_neg h, if_neg h, if_neg h2]; rfl
theorem cmpI_zero (a b : Int) : cmpI a b = 0 ↔ a = b := by
 unfold cmpI
 by_cases h : a < b
 · rw [if_pos h]; omega
 · rw [if_neg h]
   by_cases h2 : b < a
   · rw [if_pos h2]; omega
   · rw [if_neg h2]; omega
theorem cmpB_neg : ∀ x y : List UInt8, Lib.compareBytes y x = - Lib.compareBytes x y
 | [], [] => by simp [Lib.compareBytes]
 | [], _ :: _ => by simp [Lib.compareBytes]
 | _ :: _, [] => by simp [Lib.compareBytes]
 | a :: x, b :: y => by
  have ih := cmpB_neg x y
  unfold Lib.compareBytes
  by_cases h1 : a < b
  · have h2 : ¬ b < a := by rw [UInt8.lt_iff_toNat_lt] at h1 ⊢; omega
    simp [h1, h2]
  · by_cases h2 : b < a
    · simp [h1, h2]
    · simp [h1, h2, ih]
theorem cmpB_zero (x y : List UInt8) : Lib.compareBytes x y = 0 ↔ x = y := by
 rw [cmpB_eq]
 by_cases h : x = y
 · rw [if_pos h]; exact ⟨fun _ => h, fun _ => rfl⟩
 · rw [if_neg h]
   refine ⟨fun e => ?_, fun e => absurd e h⟩
   split at e <;> omega
theorem ordR_neg (a : List UInt8) (b c : Int) (x a' : List UInt8) (b' c' : Int) (x' : List UInt8) : ordR a' b' c' x' a b c x = - ordR a b c x a' b' c' x' := by
 unfold ordR
 rw [ord_neg a a', cmpI_neg b b', cmpB_neg x x', cmpI_neg c c', or2_neg, or2_neg, or2_neg]
theorem ordR_zero (a : List UInt8) (b c : Int) (x a' : List UInt8) (b' c' : Int) (x' : List UInt8) : ordR a b c x a' b' c' x' = 0 ↔ a = a' ∧ b = b' ∧ x = x' ∧ c = c' := by
 unfold ordR
 rw [or2_zero, or2_zero, or2_zero, ord_zero, cmpI_zero, cmpB_zero, cmpI_zero]
 exact ⟨fun h => ⟨h.1.1, h.1.2, h.2.1, h.2.2⟩, fun h => ⟨⟨h.1, h.2.1⟩, h.2.2.1, h.2.2.2⟩⟩
def finR (b d : ByteArray) (r : ByteArray × Bool) : ByteArray × Bool := if r.2 = true ∧ r.1.toList = b.toList then (d, true) else badD
theorem finI_ev {kind : Int} {b d : ByteArray} {r : ByteArray × Bool} (h : Ev (fun k => impl_DataBytes.f k kind d) r) : Ev (fun k => finI k kind b d) (finR b d r) := by
 unfold finI
 refine Ev.bind h ?_
 unfold finR
 exact Ev.now _
theorem big_size {n c : Int} {k : Nat} {t : ByteArray} (h : impl_big.f k n c = some t) : (c = 1 → t.size = 1) ∧ (c = 2 → t.size = 2) ∧ (c = 4 → t.size = 4) := by
 have e : Ev (fun k => impl_big.f k n c) t := Ev.of (fun k => impl_big.mono _ _ _) h
 refine ⟨fun hc => ?_, fun hc => ?_, fun hc => ?_⟩
 · subst hc; rw [Ev.unique e (big1 n), strOfNums_size]; rfl
 · subst hc; rw [Ev.unique e (big2 n), strOfNums_size]; rfl
 · subst hc; rw [Ev.unique e (big4 n), strOfNums_size]; rfl
theorem l0_size : ∀ (k : Nat) (parts : List ByteArray) (out : ByteArray) (i : Nat) (r : ByteArray × Bool), impl_DataBytes.l0 k parts out (i : Int) = some r → r.2 = true → i ≤ parts.length → parts.length < 1099511627776 → (i < parts.length → parts.length = 4) ∧ r.1.size = out.size + (parts.length - i)
 | 0, parts, out, i, r, h, h2, hi, hl => by simp [impl_DataBytes.l0] at h
 | k + 1, parts, out, i, r, h, h2, hi, hl => by
  unfold impl_DataBytes.l0 at h
  by_cases c : (i : Int) < (parts.length : Int)
  · rw [if_pos c, if_pos (by omega)] at h
    obtain ⟨b, hb, h⟩ := Option.bind_eq_some_iff.mp h
    by_cases c2 : b.2 = true
    · rw [if_pos c2] at h
      by_cases c4 : (parts.length : Int) = 4
      · rw [if_pos c4] at h
        obtain ⟨t, ht, h⟩ := Option.bind_eq_some_iff.mp h
        have hz := (big_size ht).1 rfl
        by_cases c5 : out.size + t.size ≤ 9223372036854775807
        · rw [if_pos c5, w64n (by omega)] at h
          have := l0_size k parts (out ++ t) (i + 1) r h h2 (by omega) hl
          rw [ByteArray.size_append] at this
          exact ⟨fun _ => by omega, by omega⟩
        · rw [if_neg c5] at h; cases h
      · rw [if_neg c4] at h
        obtain rfl := Option.some.inj h
        cases h2
    · rw [if_neg c2] at h
      obtain rfl := Option.some.inj h
      cases h2
  · rw [if_neg c] at h
    obtain rfl := Option.some.inj h
    exact ⟨fun x => by omega, by show out.size = _; omega⟩
theorem lab_size {k : Nat} {s lb : ByteArray} (ht : impl_isTarget.f s = some true) (h : impl_labelBytes.f k s = some lb) : lb.size = s.size + 1 ∧ s.size ≤ 60 ∧ s.size ≠ 0 := by
 have e : Ev (fun k => impl_labelBytes.f k s) lb := Ev.of (fun k => impl_labelBytes.mono _ _) h
 have hT : targL s.data.toList = true := Option.some.inj ((target_impl s).symm.trans ht)
 have hg := targ_good hT
 obtain ⟨r, g1, _, g3⟩ := nb_both s hg
 have hz := good_size hg
 rw [← size_len] at hz
 have hne : s.size ≠ 0 := by
  intro e0
  rw [size_len] at e0
  rw [List.length_eq_zero_iff.mp e0] at hT
  simp [targL] at hT
 rw [Ev.unique e g1, g3, if_neg hne]
 exact ⟨rfl, by omega, hne⟩
theorem data_size {k : Nat} {kind : Int} {d : ByteArray} {r : ByteArray × Bool} (hd : d.size ≤ 1048576) (h : impl_DataBytes.f k kind d = some r) (h2 : r.2 = true) :
 r.1.size ≤ 100 ∧ (kind = 1 → r.1.size = 4 ∨ r.1.size = 0) ∧ (kind = 2 ∨ kind = 5 → r.1.size = d.size + 2 ∧ d.size ≠ 0) ∧
 (kind = 15 → ∃ c, strings_Cut.f d (⟨#[32]⟩ : ByteArray) = some c ∧ r.1.size = c.2.1.size + 4 ∧ c.2.1.size ≠ 0) := by
 unfold impl_DataBytes.f at h
 by_cases k1 : kind = 1
 · rw [if_pos k1] at h
   obtain ⟨parts, hp, h⟩ := Option.bind_eq_some_iff.mp h
   have hpl : parts.length < 1099511627776 := by
    unfold strings_Split.f at hp
    rw [if_pos (show (⟨#[46]⟩ : ByteArray).size = 1 from rfl), if_pos (by omega)] at hp
    obtain rfl := Option.some.inj hp
    rw [List.length_map]
    have := splitL_len ((⟨#[46]⟩ : ByteArray).data.toList.headD 0) d.data.toList
    rw [← size_len] at this
    omega
   have h3 := l0_size k parts _ 0 r h h2 (by omega) hpl
   have h4 : (⟨#[]⟩ : ByteArray).size = 0 := rfl
   rw [h4] at h3
   by_cases c : 0 < parts.length
   · have := h3.1 c
     exact ⟨by omega, fun _ => .inl (by omega), fun e => by omega, fun e => by omega⟩
   · exact ⟨by omega, fun _ => .inr (by omega), fun e => by omega, fun e => by omega⟩
 rw [if_neg k1] at h
 by_cases k2 : kind = 2 ∨ kind = 5
 · rw [if_pos k2] at h
   unfold dataNs at h
   obtain ⟨t, ht, h⟩ := Option.bind_eq_some_iff.mp h
   cases t with
   | false => rw [if_neg (by decide)] at h; obtain rfl := Option.some.inj h; cases h2
   | true =>
    rw [if_pos rfl] at h
    obtain ⟨lb, hlb, h⟩ := Option.bind_eq_some_iff.mp h
    have hz := lab_size ht hlb
    rw [if_pos (by omega)] at h
    obtain rfl := Option.some.inj h
    have e : (lb ++ (⟨#[0]⟩ : ByteArray)).size = lb.size + 1 := by rw [ByteArray.size_append]; rfl
    exact ⟨by show (lb ++ (⟨#[0]⟩ : ByteArray)).size ≤ _; omega, fun e => by omega, fun _ => ⟨by show (lb ++ (⟨#[0]⟩ : ByteArray)).size = _; omega, hz.2.2⟩, fun e => by omega⟩
 rw [if_neg k2] at h
 by_cases k6 : kind = 6
 · rw [if_pos k6] at h
   unfold dataSoa at h
   obtain ⟨b, hb, h⟩ := Option.bind_eq_some_iff.mp h
   by_cases c : b.2 = true
   · rw [if_pos c] at h
     obtain ⟨t, ht, h⟩ := Option.bind_eq_some_iff.mp h
     have hz := (big_size ht).2.2 rfl
     obtain rfl := Option.some.inj h
     exact ⟨by show t.size ≤ _; omega, fun e => by omega, fun e => by omega, fun e => by omega⟩
   · rw [if_neg c] at h; obtain rfl := Option.some.inj h; cases h2
 rw [if_neg k6] at h
 by_cases k15 : kind = 15
 · rw [if_pos k15] at h
   unfold dataMx at h
   obtain ⟨c, hc, h⟩ := Option.bind_eq_some_iff.mp h
   obtain ⟨b, hb, h⟩ := Option.bind_eq_some_iff.mp h
   by_cases cb : b.2 = true
   · rw [if_pos cb] at h
     obtain ⟨t, ht, h⟩ := Option.bind_eq_some_iff.mp h
     cases t with
     | false => rw [if_neg (by decide)] at h; obtain rfl := Option.some.inj h; cases h2
     | true =>
      rw [if_pos rfl] at h
      obtain ⟨g, hg, h⟩ := Option.bind_eq_some_iff.mp h
      obtain ⟨lb, hlb, h⟩ := Option.bind_eq_some_iff.mp h
      have hz := lab_size ht hlb
      have hgz := (big_size hg).2.1 rfl
      rw [if_pos (by omega), if_pos (by omega)] at h
      obtain rfl := Option.some.inj h
      have e : ((g ++ lb) ++ (⟨#[0]⟩ : ByteArray)).size = g.size + lb.size + 1 := by rw [ByteArray.size_append, ByteArray.size_append]; rfl
      exact ⟨by show ((g ++ lb) ++ (⟨#[0]⟩ : ByteArray)).size ≤ _; omega, fun e => by omega, fun e => by omega, fun _ => ⟨c, hc, by show ((g ++ lb) ++ (⟨#[0]⟩ : ByteArray)).size = _; omega, hz.2.2⟩⟩
   · rw [if_neg cb] at h; obtain rfl := Option.some.inj h; cases h2
 rw [if_neg k15] at h
 by_cases k16 : kind = 16
 · rw [if_pos k16] at h
   unfold dataTxt at h
   by_cases c : (d.size : Int) > 30
   · rw [if_pos c] at h; obtain rfl := Option.some.inj h; cases h2
   rw [if_neg c] at h
   split at h
   · obtain rfl := Option.some.inj h; cases h2
   obtain ⟨t, ht, h⟩ := Option.bind_eq_some_iff.mp h
   have hz := (big_size ht).1 rfl
   rw [if_pos (by omega)] at h
   obtain rfl := Option.some.inj h
   exact ⟨by show (t ++ d).size ≤ _; rw [ByteArray.size_append]; omega, fun e => by omega, fun e => by omega, fun e => by omega⟩
 · rw [if_neg k16] at h; obtain rfl := Option.some.inj h; cases h2
theorem or64 (a c : Nat) (ha : a < 1099511627776) (hc : c < 256) : Go.bits .or .i64 (a : Int) (c : Int) = ((a ||| c : Nat) : Int) := by
 have hx : a ||| c < 2 ^ 40 := Nat.or_lt_two_pow (by omega) (by omega)
 have h1 : (BitVec.ofInt 64 (a : Int)).toNat = a := by
  rw [BitVec.ofInt_natCast, BitVec.toNat_ofNat]; exact Nat.mod_eq_of_lt (by omega)
 have h2 : (BitVec.ofInt 64 (c : Int)).toNat = c := by
  rw [BitVec.ofInt_natCast, BitVec.toNat_ofNat]; exact Nat.mod_eq_of_lt (by omega)
 show IntKind.i64.wrap ((BitVec.ofInt 64 (a : Int) ||| BitVec.ofInt 64 (c : Int)).toNat : Int) = _
 rw [BitVec.toNat_or, h1, h2, i64_w]
 unfold wrap64
 omega
theorem bt_getD (b : ByteArray) (i : Nat) (h : i < b.size) : bt b (i : Int) = ((b.data.toList.getD i 0).toNat : Int) := by
 have hl : i < b.data.toList.length := by rw [← size_len]; exact h
 have := bt_mkB b.data.toList i hl
 rw [data_mkB] at this
 rw [this, List.getD_eq_getElem?_getD, List.getElem?_eq_getElem hl]
 rfl
theorem itoaB_it (n : Int) (h : 0 ≤ n) : itoaB n = itB n := by
 unfold itoaB itB Lib.itoa
 rw [if_neg (by omega)]
 rfl
end Go.Proofs.YtiegkjimpclmaaaGreatDoor.Pure
