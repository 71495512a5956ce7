/- FnExactCutMessage: part 13 of 14 of my texts for this claim, joined; the theorem stands in the last. Conditions: none beyond the statement's. -/
import Derived.Test.YtiegkjimpclmaaaGreatDoorMFnExactCutMessagex11
open Go.RowKit Go.Proofs.YtiegkjimpclmaaaGreatDoorW.PrintWords Go.Proofs.YtiegkjimpclmaaaGreatDoorW.PrintLast Go.Proofs.YtiegkjimpclmaaaGreatDoorW.PrintMore
set_option linter.unusedVariables false
set_option linter.unusedSimpArgs false
set_option maxHeartbeats 8000000
set_option maxRecDepth 100000
namespace Go.Proofs.YtiegkjimpclmaaaGreatDoor.P
attribute [local go_sem] max2_int min2_int max_two min_two max_three min_three max_four min_four
mutual
def spec_CutMessage.j0 : Nat → Int → Bool → Int → Bool → Bool → Int → ByteArray → Int → List (S45) → List (S45) → Option (Int × Bool × Bool × Int × ByteArray × Int × (List (S45)) × (List (S45)) × Bool)
 | 0, _, _, _, _, _, _, _, _, _, _ => none
 | k + 1, x1, x18, x962000, x962001, x962002, x962003, x962004, x962005, x962006, x962007 => if x18 = true then (some (0, false, false, 0, (⟨#[]⟩ : ByteArray), 0, ([] : List (S45)), ([] : List (S45)), false)) else ((some (([] : List (S45)) : List (S45))).bind fun y965 => (if y965.length + x962006.length < 2932031007402 then ((some (([] : List (S45)) : List (S45))).bind fun y971 => (if y971.length + x962007.length < 2932031007402 then (spec_CutMessage.l0 k x1 x962000 x962001 x962002 x962003 x962004 x962005 (y965 ++ x962006) (y971 ++ x962007)) else (none))) else (none)))
def spec_CutMessage.l0 : Nat → Int → Int → Bool → Bool → Int → ByteArray → Int → List (S45) → List (S45) → Option (Int × Bool × Bool × Int × ByteArray × Int × (List (S45)) × (List (S45)) × Bool)
 | 0, _, _, _, _, _, _, _, _, _ => none
 | k + 1, x1, x962000, x962001, x962002, x962003, x962004, x962005, x962006, x962007 => (spec_l4Bytes.f k x962000 x962001 x962002 x962003 x962004 x962005 x962006 x962007).bind fun t977 => (if (t977.size : Int) > x1 then (if (x962007.length : Int) > 0 then ((spec_l4Less.f k x962007).bind fun t978 => (spec_CutMessage.l0 k x1 x962000 x962001 true x962003 x962004 x962005 x962006 t978)) else (if (x962006.length : Int) > 0 then ((spec_l4Less.f k x962006).bind fun t981 => (spec_CutMessage.l0 k x1 x962000 x962001 true x962003 x962004 x962005 t981 x962007)) else (some (0, false, false, 0, (⟨#[]⟩ : ByteArray), 0, ([] : List (S45)), ([] : List (S45)), false)))) else (some (x962000, x962001, x962002, x962003, x962004, x962005, x962006, x962007, true)))
end
def spec_CutMessage.f (k : Nat) (a0_0 : Int) (a0_1 : Bool) (a0_2 : Bool) (a0_3 : Int) (a0_4 : ByteArray) (a0_5 : Int) (l0_6 : List (S45)) (l0_7 : List (S45)) (a1 : Int) : Option (Int × Bool × Bool × Int × ByteArray × Int × (List (S45)) × (List (S45)) × Bool) := (spec_GoodMessage.f k a0_0 a0_1 a0_2 a0_3 a0_4 a0_5 l0_6 l0_7).bind fun t963 => (if t963 = true then (if a0_1 = true then ((spec_l1In.f a1 20 600).bind fun t964 => (spec_CutMessage.j0 k a1 (!t964) a0_0 a0_1 a0_2 a0_3 a0_4 a0_5 l0_6 l0_7)) else (spec_CutMessage.j0 k a1 true a0_0 a0_1 a0_2 a0_3 a0_4 a0_5 l0_6 l0_7)) else (spec_CutMessage.j0 k a1 true a0_0 a0_1 a0_2 a0_3 a0_4 a0_5 l0_6 l0_7))
theorem spec_CutMessage.calls (k : Nat) (a0_0 : Int) (a0_1 : Bool) (a0_2 : Bool) (a0_3 : Int) (a0_4 : ByteArray) (a0_5 : Int) (A0_6 : Option Addr) (c0_6 : Nat) (l0_6 : List (S45)) (A0_7 : Option Addr) (c0_7 : Nat) (l0_7 : List (S45)) (a1 : Int) (r1 : Int) (r2 : Bool) (r3 : Bool) (r4 : Int) (r5 : ByteArray) (r6 : Int) (r7 : List (S45)) (r8 : List (S45)) (r9 : Bool) (w : World) (hr0_6 : Kd.C k45 w A0_6 l0_6.length l0_6) (hc0_6 : l0_6.length ≤ c0_6) (hr0_7 : Kd.C k45 w A0_7 l0_7.length l0_7) (hc0_7 : l0_7.length ≤ c0_7) (h : spec_CutMessage.f k a0_0 a0_1 a0_2 a0_3 a0_4 a0_5 l0_6 l0_7 a1 = some (r1, r2, r3, r4, r5, r6, r7, r8, r9)) :
 Calls Tryz.prog 39 #[.agg #[.int .i64 a0_0, .bool a0_1, .bool a0_2, .int .i64 a0_3, .string a0_4, .int .i64 a0_5, .slice A0_6 l0_6.length c0_6, .slice A0_7 l0_7.length c0_7], .int .i64 a1] w fun e w' => ∃ v6_ v7_ : Value, e = .returned (.tuple #[.agg #[.int .i64 r1, .bool r2, .bool r3, .int .i64 r4, .string r5, .int .i64 r6, v6_, v7_], .bool r9]) ∧ Kd.R k45 45 w' w.heap.size (fun k_ => some k_ ≠ (v7_ : Value).ownBlock) v6_ r7 ∧ Kd.R k45 45 w' w.heap.size (fun k_ => some k_ ≠ (v6_ : Value).ownBlock) v7_ r8 ∧ Below w.heap.size w w' := by
 have hu62 := Tryz.underlying62
 have HR0_6 := a0_ hr0_6
 have HC0_6 := a0_ hc0_6
 clear hr0_6 hc0_6
 have HR0_7 := a0_ hr0_7
 have HC0_7 := a0_ hc0_7
 clear hr0_7 hc0_7
 have HB := a0_ (Below.refl w.heap.size w)
 have H := h
 clear h
 unfold spec_CutMessage.f at H
 have HC3 := a0_ H
 clear H
 go_enter Tryz.func39, Tryz.ntmps39
 go_upto_region 1 with (first | ((with_reducible refine gate_dst (N := 2) rfl ?_); refine boxS_ 2 #[.int .i64 a0_0, .bool a0_1, .bool a0_2, .int .i64 a0_3, .string a0_4, .int .i64 a0_5, .slice A0_6 l0_6.length c0_6, .slice A0_7 l0_7.length c0_7] 62 (fun gb961 hg w4 hbox hb => ?_); have BK961 := a0_ (hbox); have GW961 := a0_ (gw_ hg : w.heap.size ≤ gb961); replace HB := a0_ (below_step bq0_ hb); have GE961 := GW961; clear hb hbox hg) | ((with_reducible refine gate_dst (N := 4) rfl ?_); refine boxS_ 4 #[.int .i64 0, .bool false, .bool false, .int .i64 0, .string (⟨#[]⟩ : ByteArray), .int .i64 0, .slice none 0 0, .slice none 0 0] 62 (fun gb962 hg w5 hbox hb => ?_); have BK962 := a0_ (hbox); have GW962 := a0_ (gw_ hg (below_size bq1_) : w.heap.size ≤ gb962); replace HB := a0_ (below_step bq1_ hb); have NB961_962 := a0_ ((by rw [hg]; exact Nat.ne_of_lt (blk_lt (g := gb961) (o := .cells #[.int .i64 a0_0, .bool a0_1, .bool a0_2, .int .i64 a0_3, .string a0_4, .int .i64 a0_5, .slice A0_6 l0_6.length c0_6, .slice A0_7 l0_7.length c0_7] 62 (0, 0)) (kB_ BK961.out)) : gb961 ≠ gb962)); have NB962_961 := a0_ ((by rw [hg]; exact Nat.ne_of_gt (blk_lt (g := gb961) (o := .cells #[.int .i64 a0_0, .bool a0_1, .bool a0_2, .int .i64 a0_3, .string a0_4, .int .i64 a0_5, .slice A0_6 l0_6.length c0_6, .slice A0_7 l0_7.length c0_7] 62 (0, 0)) (kB_ BK961.out)) : gb962 ≠ gb961)); replace BK961 := a0_ (bkB_ BK961 hb); have GE962 := GW962; clear hb hbox hg))
 (try simp only [Act.put, List.setIfInBounds_toArray, List.set_cons_zero, List.set_cons_succ])
 go_cut [18] (fun v18 wc => ∃ (kq : Nat) (x18_2 : Bool), v18 = .bool x18_2 ∧ Aside0 (spec_CutMessage.j0 kq a1 x18_2 a0_0 a0_1 a0_2 a0_3 a0_4 a0_5 l0_6 l0_7 = some (r1, r2, r3, r4, r5, r6, r7, r8, r9)) ∧ Aside0 (kq ≤ k) ∧ Aside0 (wc.heap[gb961]? = some (.cells #[.int .i64 a0_0, .bool a0_1, .bool a0_2, .int .i64 a0_3, .string a0_4, .int .i64 a0_5, (.slice A0_6 l0_6.length c0_6), (.slice A0_7 l0_7.length c0_7)] 62 (0, 0))) ∧ Aside0 (wc.heap[gb962]? = some (.cells #[.int .i64 0, .bool false, .bool false, .int .i64 0, .string (⟨#[]⟩ : ByteArray), .int .i64 0, (.slice none 0 0), (.slice none 0 0)] 62 (0, 0))) ∧ Aside0 (Below w.heap.size w wc))
 case first =>
  have H := HC3.out
  clear HC3
  obtain ⟨t963, A6, H⟩ := ob_ H
  by_cases c7 : t963 = true
  case neg =>
   replace c7 := Bool.eq_false_iff.mpr c7
   subst c7
   rw [if_neg ff_] at H
   have H' := a0_ H
   clear H
   have hnb18 := NB961_962.out
   have hnc18 := NB962_961.out
   obtain ⟨z19_0, z19_1, z19_2, z19_3, z19_4, z19_5, z19_6, z19_7, q19_0, q19_1, q19_2, q19_3, q19_4, q19_5, q19_6, q19_7⟩ := bk8_ BK961.out
   go_wp2_with (first | ((with_reducible refine gt_ 101 rfl ?_); refine gs_ 7 Tryz.func101 #[.agg #[.int .i64 a0_0, .bool a0_1, .bool a0_2, .int .i64 a0_3, .string a0_4, .int .i64 a0_5, .slice A0_6 l0_6.length c0_6, .slice A0_7 l0_7.length c0_7]] ?_; (with_reducible refine (spec_GoodMessage.calls k a0_0 a0_1 a0_2 a0_3 a0_4 a0_5 _ _ l0_6 _ _ l0_7 false _ ?side1 ?side2 ?side3 ?side4 A6.out).mono ?_); (case side1 => exact kC_ HR0_6.out HB.out); (case side2 => exact HC0_6.out); (case side3 => exact kC_ HR0_7.out HB.out); (case side4 => exact HC0_7.out); rintro e w20 ⟨rfl, hb⟩; refine ⟨_, rfl, ?_⟩; replace BK961 := a0_ (bkB_ BK961 hb); replace BK962 := a0_ (bkB_ BK962 hb); replace HB := a0_ (below_step bq1_ hb); clear hb))
   go_meet
   case rel => exact ⟨_, (true), rs_, H', ⟨by first | omega | exact Nat.le_refl _⟩, ⟨bz_⟩, ⟨bz_⟩, ⟨bq1_⟩⟩
  subst c7
  rw [if_pos rfl] at H
  by_cases c8 : a0_1 = true
  case neg =>
   replace c8 := Bool.eq_false_iff.mpr c8
   subst c8
   rw [if_neg ff_] at H
   have H' := a0_ H
   clear H
   have hnb14 := NB961_962.out
   have hnc14 := NB962_961.out
   obtain ⟨z15_0, z15_1, z15_2, z15_3, z15_4, z15_5, z15_6, z15_7, q15_0, q15_1, q15_2, q15_3, q15_4, q15_5, q15_6, q15_7⟩ := bk8_ BK961.out
   go_wp2_with (first | ((with_reducible refine gt_ 101 rfl ?_); refine gs_ 7 Tryz.func101 #[.agg #[.int .i64 a0_0, .bool false, .bool a0_2, .int .i64 a0_3, .string a0_4, .int .i64 a0_5, .slice A0_6 l0_6.length c0_6, .slice A0_7 l0_7.length c0_7]] ?_; (with_reducible refine (spec_GoodMessage.calls k a0_0 false a0_2 a0_3 a0_4 a0_5 _ _ l0_6 _ _ l0_7 true _ ?side1 ?side2 ?side3 ?side4 A6.out).mono ?_); (case side1 => exact kC_ HR0_6.out HB.out); (case side2 => exact HC0_6.out); (case side3 => exact kC_ HR0_7.out HB.out); (case side4 => exact HC0_7.out); rintro e w16 ⟨rfl, hb⟩; refine ⟨_, rfl, ?_⟩; replace BK961 := a0_ (bkB_ BK961 hb); replace BK962 := a0_ (bkB_ BK962 hb); replace HB := a0_ (below_step bq1_ hb); clear hb; obtain ⟨z17_0, z17_1, z17_2, z17_3, z17_4, z17_5, z17_6, z17_7, q17_0, q17_1, q17_2, q17_3, q17_4, q17_5, q17_6, q17_7⟩ := bk8_ BK961.out))
   go_meet
   case rel => exact ⟨_, (true), rs_, H', ⟨by first | omega | exact Nat.le_refl _⟩, ⟨bz_⟩, ⟨bz_⟩, ⟨bq1_⟩⟩
  subst c8
  rw [if_pos rfl] at H
  obtain ⟨t964, A9, H⟩ := ob_ H
  have H' := a0_ H
  clear H
  have hnb10 := NB961_962.out
  have hnc10 := NB962_961.out
  obtain ⟨z11_0, z11_1, z11_2, z11_3, z11_4, z11_5, z11_6, z11_7, q11_0, q11_1, q11_2, q11_3, q11_4, q11_5, q11_6, q11_7⟩ := bk8_ BK961.out
  go_wp2_with (first | ((with_reducible refine gt_ 101 rfl ?_); refine gs_ 7 Tryz.func101 #[.agg #[.int .i64 a0_0, .bool true, .bool a0_2, .int .i64 a0_3, .string a0_4, .int .i64 a0_5, .slice A0_6 l0_6.length c0_6, .slice A0_7 l0_7.length c0_7]] ?_; (with_reducible refine (spec_GoodMessage.calls k a0_0 true a0_2 a0_3 a0_4 a0_5 _ _ l0_6 _ _ l0_7 true _ ?side1 ?side2 ?side3 ?side4 A6.out).mono ?_); (case side1 => exact kC_ HR0_6.out HB.out); (case side2 => exact HC0_6.out); (case side3 => exact kC_ HR0_7.out HB.out); (case side4 => exact HC0_7.out); rintro e w12 ⟨rfl, hb⟩; refine ⟨_, rfl, ?_⟩; replace BK961 := a0_ (bkB_ BK961 hb); replace BK962 := a0_ (bkB_ BK962 hb); replace HB := a0_ (below_step bq1_ hb); clear hb; obtain ⟨z13_0, z13_1, z13_2, z13_3, z13_4, z13_5, z13_6, z13_7, q13_0, q13_1, q13_2, q13_3, q13_4, q13_5, q13_6, q13_7⟩ := bk8_ BK961.out) | (go_at_call 102; (with_reducible refine (spec_l1In.calls a1 20 600 t964 _ A9.out).mono ?_); rintro e w' ⟨rfl, ⟨nd, rfl⟩⟩))
  go_meet
  case rel => exact ⟨_, (!t964), rs_, H', ⟨by first | omega | exact Nat.le_refl _⟩, ⟨bz_⟩, ⟨bz_⟩, ⟨bq1_⟩⟩
 case rest =>
  clear HC3
  obtain ⟨kq, x18_2, rfl, HA, HJ2, BK961, BK962, HB⟩ := hcut
  cases kq with
  | zero => exact absurd HA.out (by simp [spec_CutMessage.j0])
  | succ kj2 =>
   have H := HA.out
   clear HA
   simp only [spec_CutMessage.j0] at H
   by_cases c21 : x18_2 = true
   case pos =>
    subst c21
    rw [if_pos rfl] at H
    simp only [Option.some.injEq, Prod.mk.injEq] at H
    obtain ⟨rfl, rfl, rfl, rfl, rfl, rfl, rfl, rfl, rfl⟩ := H
    have hnb22 := NB962_961.out
    have hnc22 := NB961_962.out
    obtain ⟨_, _, _, _, _, _, _, _, _, _, _, _, _, _, _, _⟩ := bk8_ BK962.out
    go_wp2
    refine bodyPost_ret (results_ct rfl _ _ gb962 62 #[.int .i64 0, .bool false, .bool false, .int .i64 0, .string (⟨#[]⟩ : ByteArray), .int .i64 0, .slice none 0 0, .slice none 0 0] (0, 0) _ rfl (put8_ BK962.out) Tryz.underlying62 rfl (by kernel_rfl)) rfl ?_
    exact ⟨_, _, rr_, by first | exact Kd.R_nil _ _ _ _ _ | exact Kd.N_nil _ _ _ _ _ | exact Kd.V_nil _ _ _ _ _ | exact Kd.Q_nil _ _ _ _ _ | exact Kd.S_nil _ _ _ _ _, by first | exact Kd.R_nil _ _ _ _ _ | exact Kd.N_nil _ _ _ _ _ | exact Kd.V_nil _ _ _ _ _ | exact Kd.Q_nil _ _ _ _ _ | exact Kd.S_nil _ _ _ _ _, bq1_⟩
   replace c21 := Bool.eq_false_iff.mpr c21
   subst c21
   rw [if_neg ff_] at H
   obtain ⟨y965, hy965⟩ : ∃ y_ : List (S45), y_ = (([] : List (S45))) := ⟨_, rfl⟩
   replace H := by_ hy965 H
   have Ny965 := a0_ hy965
   clear hy965
   by_cases c24 : y965.length + l0_6.length < 2932031007402
   case neg =>
    rw [if_neg c24] at H
    exact absurd H (by simp)
   rw [if_pos c24] at H
   have LMc24 := a0_ c24
   clear c24
   obtain ⟨y968, hy968⟩ : ∃ y_ : List (S45), y_ = (y965 ++ l0_6) := ⟨_, rfl⟩
   replace H : ((some (([] : List (S45)) : List (S45))).bind fun y971 => (if y971.length + l0_7.length < 2932031007402 then (spec_CutMessage.l0 kj2 a1 a0_0 a0_1 a0_2 a0_3 a0_4 a0_5 y968 (y971 ++ l0_7)) else (none))) = some (r1, r2, r3, r4, r5, r6, r7, r8, r9) := by first | (rw [hy968]; with_reducible exact H) | (have H2_ := (Option.bind_some _ _).symm.trans H; rw [hy968]; with_reducible exact H2_) | (have H2_ := (Option.bind_some _ _).symm.trans H; with_reducible exact H2_) | with_reducible exact H | (rw [hy968]; exact H) | exact H
   have Ny968 := a0_ hy968
   clear hy968
   obtain ⟨y971, hy971⟩ : ∃ y_ : List (S45), y_ = (([] : List (S45))) := ⟨_, rfl⟩
   replace H := by_ hy971 H
   have Ny971 := a0_ hy971
   clear hy971
   by_cases c25 : y971.length + l0_7.length < 2932031007402
   case neg =>
    rw [if_neg c25] at H
    exact absurd H (by simp)
   rw [if_pos c25] at H
   have LMc25 := a0_ c25
   clear c25
   obtain ⟨y974, hy974⟩ : ∃ y_ : List (S45), y_ = (y971 ++ l0_7) := ⟨_, rfl⟩
   replace H : (spec_CutMessage.l0 kj2 a1 a0_0 a0_1 a0_2 a0_3 a0_4 a0_5 y968 y974) = some (r1, r2, r3, r4, r5, r6, r7, r8, r9) := by first | (rw [hy974]; with_reducible exact H) | (have H2_ := (Option.bind_some _ _).symm.trans H; rw [hy974]; with_reducible exact H2_) | (have H2_ := (Option.bind_some _ _).symm.trans H; with_reducible exact H2_) | with_reducible exact H | (rw [hy974]; exact H) | exact H
   have Ny974 := a0_ hy974
   clear hy974
   have H' := a0_ H
   clear H
   go_wp2_with (first | ((with_reducible refine gate_dst (N := 20) rfl ?_); refine Kd.R_lit k45 _ 45 ?hg (N := 20) ?hd (xs := ([] : List (S45))) (inner := []) (ok := fun _ => True) (okp := fun _ => True) ?hr ?hp (fun _ hk => hk) trivial (Below.refl _ _) (Nat.le_refl _) (by simp) ?_; (case hd => rfl); (case hg => rfl); (case hr => first | (go_simp; done) | (go_simp; rfl)); (case hp => exact (Reps.none _ _)); intro v966 w26 ho27 hb hg_ hnew_; clear hg_ hnew_; (first | rw [← Ny965.out] at ho27 | (simp only [Int.reduceToNat] at ho27; rw [← Ny965.out] at ho27)); have HO967 := a0_ (Kd.R_lower ho27 (below_size bq1_)); replace BK961 := a0_ (bkB_ BK961 hb); replace BK962 := a0_ (bkB_ BK962 hb); replace HB := a0_ (below_step bq1_ hb); clear hb ho27; have hnb28 := NB961_962.out; have hnc28 := NB962_961.out; obtain ⟨z29_0, z29_1, z29_2, z29_3, z29_4, z29_5, z29_6, z29_7, q29_0, q29_1, q29_2, q29_3, q29_4, q29_5, q29_6, q29_7⟩ := bk8_ BK961.out) | ((with_reducible refine gate_builtin (b := .append) (xs := #[.tmp 20, .tmp 22]) rfl ?_); at_builtin; refine Kd.R_append_rows k45 (w0 := w) w.heap.size rfl (.tmp 20) (.tmp 22) 27 45 (.agg #[(.string ⟨#[]⟩), (.int .i64 0), (.int .i64 0), (.string ⟨#[]⟩)]) 48 rfl Tryz.underlying27 info45 rfl (by decide) (by omega) v966 y965 l0_6 _ _ _ (fun _ => True) (fun _ => False) rfl rfl ?aO ?aR (fun _ _ h => h) (fun _ h => h.elim) ?aF ?aB ?aS ?aL ?_; (case aR => repeat (first | exact (Kd.C_below HR0_6.out HB.out) | (with_reducible refine Kd.C_alloc ?_ _) | (with_reducible refine Kd.C_drewN ?_ _) | (with_reducible refine Kd.C_drew ?_))); (case aB => exact bq1_); (case aF => exact (fun _ _ => trivial)); (case aO => exact (kR_ HO967.out)); (case aS => exact (below_size bq1_)); (case aL => have := LMc24.out; omega); intro v969 w30 ho hb hg hat; rw [← Ny968.out] at ho; replace BK961 := a0_ (blk_grown (g := gb961) (o := .cells #[.int .i64 a0_0, .bool a0_1, .bool a0_2, .int .i64 a0_3, .string a0_4, .int .i64 a0_5, .slice A0_6 l0_6.length c0_6, .slice A0_7 l0_7.length c0_7] 62 (0, 0)) (kB_ BK961.out) hg (Kd.R_ne HO967.out BK961.out (by decide))); replace BK962 := a0_ (blk_grown (g := gb962) (o := .cells #[.int .i64 0, .bool false, .bool false, .int .i64 0, .string (⟨#[]⟩ : ByteArray), .int .i64 0, .slice none 0 0, .slice none 0 0] 62 (0, 0)) (kB_ BK962.out) hg (Kd.R_ne HO967.out BK962.out (by decide))); replace HB := a0_ (hb); have HO970 := a0_ (ho); clear HO967; clear ho hb hg hat; obtain ⟨Ao31, co31, eo31⟩ := Kd.R_slice HO970.out; subst eo31; obtain ⟨z32_0, z32_1, z32_2, z32_3, z32_4, z32_5, z32_6, z32_7, q32_0, q32_1, q32_2, q32_3, q32_4, q32_5, q32_6, q32_7⟩ := bk8_ BK961.out) | ((with_reducible refine gate_dst (N := 25) rfl ?_); refine Kd.R_lit k45 _ 45 ?hg (N := 25) ?hd (xs := ([] : List (S45))) (inner := []) (ok := fun _ => True) (okp := fun _ => True) ?hr ?hp (fun _ hk => hk) trivial (Below.refl _ _) (Nat.le_refl _) (by simp) ?_; (case hd => rfl); (case hg => rfl); (case hr => first | (go_simp; done) | (go_simp; rfl)); (case hp => exact (Reps.none _ _)); intro v972 w33 ho34 hb hg_ hnew_; clear hg_ hnew_; (first | rw [← Ny971.out] at ho34 | (simp only [Int.reduceToNat] at ho34; rw [← Ny971.out] at ho34)); have HO973 := a0_ (Kd.R_lower (Kd.R_new' ho34 (Kd.R_lt (kR_ (Kd.R_mono (Kd.R_far (p := ⟨gb961, 6, none⟩) (Kd.R_types HO970.out BK961.out (by decide)) (fun _ hk => hk.2) (.slice Ao31 y968.length co31)) (fun _ h_ => h_.1))))) (below_size bq1_)); replace HO970 := a0_ (Kd.R_elder' (kR_ (Kd.R_mono (Kd.R_far (p := ⟨gb961, 6, none⟩) (Kd.R_types HO970.out BK961.out (by decide)) (fun _ hk => hk.2) (.slice Ao31 y968.length co31)) (fun _ h_ => h_.1))) (Kd.R_base ho34) hb); replace BK962 := a0_ (blk_below (g := gb962) (o := .cells #[.int .i64 0, .bool false, .bool false, .int .i64 0, .string (⟨#[]⟩ : ByteArray), .int .i64 0, .slice none 0 0, .slice none 0 0] 62 (0, 0)) bz_ hb); replace BK961 := a0_ (blk_below (g := gb961) (o := .cells #[.int .i64 a0_0, .bool a0_1, .bool a0_2, .int .i64 a0_3, .string a0_4, .int .i64 a0_5, .slice Ao31 y968.length co31, .slice A0_7 l0_7.length c0_7] 62 (0, 0)) (by (with_reducible repeat (first | refine blk_drewN ?_ _ | refine blk_drew ?_ | refine blk_alloc ?_ _)); refine blk_put (cs := #[.int .i64 a0_0, .bool a0_1, .bool a0_2, .int .i64 a0_3, .string a0_4, .int .i64 a0_5, .slice A0_6 l0_6.length c0_6, .slice A0_7 l0_7.length c0_7]) ?_ 6 _ rfl; (with_reducible repeat (first | refine blk_drewN ?_ _ | refine blk_drew ?_ | refine blk_alloc ?_ _)); exact BK961.out) hb); replace HB := a0_ (below_step bq1_ hb); clear hb ho34; obtain ⟨z35_0, z35_1, z35_2, z35_3, z35_4, z35_5, z35_6, z35_7, q35_0, q35_1, q35_2, q35_3, q35_4, q35_5, q35_6, q35_7⟩ := bk8_ BK961.out) | ((with_reducible refine gate_builtin (b := .append) (xs := #[.tmp 25, .tmp 27]) rfl ?_); at_builtin; refine Kd.R_append_rows k45 (w0 := w) w.heap.size rfl (.tmp 25) (.tmp 27) 27 45 (.agg #[(.string ⟨#[]⟩), (.int .i64 0), (.int .i64 0), (.string ⟨#[]⟩)]) 48 rfl Tryz.underlying27 info45 rfl (by decide) (by omega) v972 y971 l0_7 _ _ _ (fun k_ => nw_ k_ Ao31 y968.length co31) (fun _ => False) rfl rfl ?aO ?aR (fun _ _ h => h) (fun _ h => h.elim) ?aF ?aB ?aS ?aL ?_; (case aR => repeat (first | exact (Kd.C_below HR0_7.out HB.out) | (with_reducible refine Kd.C_alloc ?_ _) | (with_reducible refine Kd.C_drewN ?_ _) | (with_reducible refine Kd.C_drew ?_))); (case aB => exact bq1_); (case aF => exact (fun k_ hk => Kd.fresh' (Kd.R_lt (kR_ HO970.out)) k_ hk)); (case aO => exact (kR_ (Kd.R_mono HO973.out (fun _ hk => hk.2)))); (case aS => exact (below_size bq1_)); (case aL => have := LMc25.out; omega); intro v975 w36 ho hb hg hat; rw [← Ny974.out] at ho; replace BK961 := a0_ (blk_grown (g := gb961) (o := .cells #[.int .i64 a0_0, .bool a0_1, .bool a0_2, .int .i64 a0_3, .string a0_4, .int .i64 a0_5, .slice Ao31 y968.length co31, .slice A0_7 l0_7.length c0_7] 62 (0, 0)) (kB_ BK961.out) hg (Kd.R_ne HO973.out BK961.out (by decide))); replace BK962 := a0_ (blk_grown (g := gb962) (o := .cells #[.int .i64 0, .bool false, .bool false, .int .i64 0, .string (⟨#[]⟩ : ByteArray), .int .i64 0, .slice none 0 0, .slice none 0 0] 62 (0, 0)) (kB_ BK962.out) hg (Kd.R_ne HO973.out BK962.out (by decide))); replace HO970 := a0_ (Kd.R_after (ok := (fun _ => True)) (kR_ HO970.out) hg hat); replace HB := a0_ (hb); have HO976 := a0_ (ho); clear HO973; clear ho hb hg hat; obtain ⟨Ao37, co37, eo37⟩ := Kd.R_slice HO976.out; subst eo37; obtain ⟨z38_0, z38_1, z38_2, z38_3, z38_4, z38_5, z38_6, z38_7, q38_0, q38_1, q38_2, q38_3, q38_4, q38_5, q38_6, q38_7⟩ := bk8_ BK961.out))
   go_loopg [] kj2 (fun kq w' => ∃ (x962002_2 : Bool) (x962006_2 : List (S45)) (x962007_2 : List (S45)) (x963000_2 : Int) (x963001_2 : Bool) (x963002_2 : Bool) (x963003_2 : Int) (x963004_2 : ByteArray) (x963005_2 : Int) (u962006 : Value) (u962007 : Value), Aside0 (spec_CutMessage.l0 kq a1 a0_0 a0_1 x962002_2 a0_3 a0_4 a0_5 x962006_2 x962007_2 = some (r1, r2, r3, r4, r5, r6, r7, r8, r9)) ∧ Aside0 (kq ≤ kj2) ∧ Aside0 (Kd.R k45 45 w' w.heap.size (fun k_ => some k_ ≠ (u962007 : Value).ownBlock) u962006 x962006_2) ∧ Aside0 (Kd.R k45 45 w' w.heap.size (fun k_ => some k_ ≠ (u962006 : Value).ownBlock) u962007 x962007_2) ∧ Aside0 (w'.heap[gb961]? = some (.cells #[.int .i64 a0_0, .bool a0_1, .bool x962002_2, .int .i64 a0_3, .string a0_4, .int .i64 a0_5, u962006, u962007] 62 (0, 0))) ∧ Aside0 (w'.heap[gb962]? = some (.cells #[.int .i64 x963000_2, .bool x963001_2, .bool x963002_2, .int .i64 x963003_2, .string x963004_2, .int .i64 x963005_2, (.slice none 0 0), (.slice none 0 0)] 62 (0, 0))) ∧ Aside0 (Below w.heap.size w w'))
   case atStart => exact ⟨(a0_2), (y968), (y974), (0), (false), (false), (0), ((⟨#[]⟩ : ByteArray)), (0), (.slice Ao31 y968.length co31), (.slice Ao37 y974.length co37), H', ⟨Nat.le_refl _⟩, ⟨by (with_reducible repeat (first | apply Kd.R_alloc | apply Kd.R_drewN | apply Kd.R_drew)); exact Kd.R_mono (Kd.R_far (p := ⟨gb961, 7, none⟩) (Kd.R_types HO970.out BK961.out (by decide)) (fun _ hk => hk.2) (.slice Ao37 y974.length co37)) (fun _ hk => hk.1.2)⟩, ⟨by (with_reducible repeat (first | apply Kd.R_alloc | apply Kd.R_drewN | apply Kd.R_drew)); exact Kd.R_mono (Kd.R_far (p := ⟨gb961, 7, none⟩) (Kd.R_types HO976.out BK961.out (by decide)) (fun _ hk => hk.2) (.slice Ao37 y974.length co37)) (fun _ hk => hk.1)⟩, ⟨by (with_reducible repeat (first | refine blk_drewN ?_ _ | refine blk_drew ?_ | refine blk_alloc ?_ _)); refine blk_put (cs := #[.int .i64 a0_0, .bool a0_1, .bool a0_2, .int .i64 a0_3, .string a0_4, .int .i64 a0_5, .slice Ao31 y968.length co31, .slice A0_7 l0_7.length c0_7]) ?_ 7 _ rfl; (with_reducible repeat (first | refine blk_drewN ?_ _ | refine blk_drew ?_ | refine blk_alloc ?_ _)); exact BK961.out⟩, ⟨bz_⟩, ⟨bq1_⟩⟩
   case round =>
    clear H'
    try clear c1
    try clear p2
    try clear c3
    try clear c7
    try clear c8
    try clear c10
    try clear c14
    try clear c18
    try clear c21
    try clear c24
    try clear c25
    try clear z11_0 z11_1 z11_2 z11_3 z11_4 z11_5 z11_6 z11_7
    try clear z13_0 z13_1 z13_2 z13_3 z13_4 z13_5 z13_6 z13_7
    try clear z15_0 z15_1 z15_2 z15_3 z15_4 z15_5 z15_6 z15_7
    try clear z17_0 z17_1 z17_2 z17_3 z17_4 z17_5 z17_6 z17_7
    try clear z19_0 z19_1 z19_2 z19_3 z19_4 z19_5 z19_6 z19_7
    try clear z29_0 z29_1 z29_2 z29_3 z29_4 z29_5 z29_6 z29_7
    try clear z32_0 z32_1 z32_2 z32_3 z32_4 z32_5 z32_6 z32_7
    try clear z35_0 z35_1 z35_2 z35_3 z35_4 z35_5 z35_6 z35_7
    try clear z38_0 z38_1 z38_2 z38_3 z38_4 z38_5 z38_6 z38_7
    try clear q11_0 q11_1 q11_2 q11_3 q11_4 q11_5 q11_6 q11_7
    try clear q13_0 q13_1 q13_2 q13_3 q13_4 q13_5 q13_6 q13_7
    try clear q15_0 q15_1 q15_2 q15_3 q15_4 q15_5 q15_6 q15_7
    try clear q17_0 q17_1 q17_2 q17_3 q17_4 q17_5 q17_6 q17_7
    try clear q19_0 q19_1 q19_2 q19_3 q19_4 q19_5 q19_6 q19_7
    try clear q29_0 q29_1 q29_2 q29_3 q29_4 q29_5 q29_6 q29_7
    try clear q32_0 q32_1 q32_2 q32_3 q32_4 q32_5 q32_6 q32_7
    try clear q35_0 q35_1 q35_2 q35_3 q35_4 q35_5 q35_6 q35_7
    try clear q38_0 q38_1 q38_2 q38_3 q38_4 q38_5 q38_6 q38_7
    try clear p2
    obtain ⟨x962002_2, x962006_2, x962007_2, x963000_2, x963001_2, x963002_2, x963003_2, x963004_2, x963005_2, u962006, u962007, HA, HK2, HO_962006, HO_962007, BK961, BK962, HB⟩ := hrel
    cases gk with
    | zero => exact absurd HA.out (by simp [spec_CutMessage.l0])
    | succ k2 =>
     have H := HA.out
     clear HA
     simp only [spec_CutMessage.l0] at H
     obtain ⟨t977, A39, H⟩ := ob_ H
     by_cases c40 : (t977.size : Int) > a1
     case neg =>
      rw [if_neg c40] at H
      have c40b0 := decide_eq_false c40
      clear c40
      simp only [Option.some.injEq, Prod.mk.injEq] at H
      obtain ⟨rfl, rfl, rfl, rfl, rfl, rfl, rfl, rfl, rfl⟩ := H
      have hnb70 := NB961_962.out
      have hnc70 := NB962_961.out
      obtain ⟨_, _, _, _, _, _, _, _, _, _, _, _, _, _, _, _⟩ := bk8_ BK961.out
      obtain ⟨Ao72, co72, eo72⟩ := Kd.R_slice HO_962006.out
      subst eo72
      obtain ⟨Ao73, co73, eo73⟩ := Kd.R_slice HO_962007.out
      subst eo73
      go_wp2_with (first | ((with_reducible refine gt_ 103 rfl ?_); refine gs_ 31 Tryz.func103 #[.agg #[.int .i64 a0_0, .bool a0_1, .bool x962002_2, .int .i64 a0_3, .string a0_4, .int .i64 a0_5, .slice Ao72 x962006_2.length co72, .slice Ao73 x962007_2.length co73]] ?_; (with_reducible refine (spec_l4Bytes.calls k2 a0_0 a0_1 x962002_2 a0_3 a0_4 a0_5 _ _ x962006_2 _ _ x962007_2 t977 _ ?side1 ?side2 ?side3 ?side4 A39.out).mono ?_); (case side1 => exact kD_ (Kd.R_reads' HO_962006.out).2.2); (case side2 => exact (Kd.R_reads' HO_962006.out).2.1); (case side3 => exact kD_ (Kd.R_reads' HO_962007.out).2.2); (case side4 => exact (Kd.R_reads' HO_962007.out).2.1); rintro e w74 ⟨rfl, hb⟩; refine ⟨_, rfl, ?_⟩; replace HO_962006 := a0_ (Kd.R_below (kR_ HO_962006.out) hb); replace HO_962007 := a0_ (Kd.R_below (kR_ HO_962007.out) hb); replace BK961 := a0_ (bkB_ BK961 hb); replace BK962 := a0_ (bkB_ BK962 hb); replace HB := a0_ (below_step bq1_ hb); clear hb; obtain ⟨_, _, _, _, _, _, _, _, _, _, _, _, _, _, _, _⟩ := bk8_ BK961.out; obtain ⟨_, _, _, _, _, _, _, _, _, _, _, _, _, _, _, _⟩ := bk8_ BK962.out))
      refine bodyPost_ret (results_ct rfl _ _ gb962 62 #[.int .i64 a0_0, .bool a0_1, .bool x962002_2, .int .i64 a0_3, .string a0_4, .int .i64 a0_5, .slice Ao72 x962006_2.length co72, .slice Ao73 x962007_2.length co73] (0, 0) _ rfl (put8_ BK962.out) Tryz.underlying62 rfl (by kernel_rfl)) rfl ?_
      exact ⟨_, _, rr_, by (with_reducible repeat (first | apply Kd.R_alloc | apply Kd.R_drewN | apply Kd.R_drew)); exact Kd.R_mono (Kd.R_far (p := ⟨gb962, 7, none⟩) (Kd.R_far (p := ⟨gb962, 6, none⟩) (Kd.R_far (p := ⟨gb962, 5, none⟩) (Kd.R_far (p := ⟨gb962, 4, none⟩) (rf4_ gb962 (Kd.R_types HO_962006.out BK962.out (by decide)) (fun _ hk => hk.2) (.int .i64 a0_0) (.bool a0_1) (.bool x962002_2) (.int .i64 a0_3)) (fun _ hk => hk.2) (.string a0_4)) (fun _ hk => hk.2) (.int .i64 a0_5)) (fun _ hk => hk.2) (.slice Ao72 x962006_2.length co72)) (fun _ hk => hk.2) (.slice Ao73 x962007_2.length co73)) (fun _ hk => hk.1), by (with_reducible repeat (first | apply Kd.R_alloc | apply Kd.R_drewN | apply Kd.R_drew)); exact Kd.R_mono (Kd.R_far (p := ⟨gb962, 7, none⟩) (Kd.R_far (p := ⟨gb962, 6, none⟩) (Kd.R_far (p := ⟨gb962, 5, none⟩) (Kd.R_far (p := ⟨gb962, 4, none⟩) (rf4_ gb962 (Kd.R_types HO_962007.out BK962.out (by decide)) (fun _ hk => hk.2) (.int .i64 a0_0) (.bool a0_1) (.bool x962002_2) (.int .i64 a0_3)) (fun _ hk => hk.2) (.string a0_4)) (fun _ hk => hk.2) (.int .i64 a0_5)) (fun _ hk => hk.2) (.slice Ao72 x962006_2.length co72)) (fun _ hk => hk.2) (.slice Ao73 x962007_2.length co73)) (fun _ hk => hk.1), bq1_⟩
     rw [if_pos c40] at H
     have c40b0 := decide_eq_true c40
     clear c40
     by_cases c41 : (x962007_2.length : Int) > 0
     case pos =>
      rw [if_pos c41] at H
      have c41b0 := decide_eq_true c41
      have c41b1 : decide (0 < x962007_2.length) = true := decide_eq_true (by omega)
      clear c41
      obtain ⟨t978, A42, H⟩ := ob_ H
      have H' := a0_ H
      clear H
      have hnb43 := NB961_962.out
      have hnc43 := NB962_961.out
      obtain ⟨_, _, _, _, _, _, _, _, _, _, _, _, _, _, _, _⟩ := bk8_ BK961.out
      obtain ⟨Ao45, co45, eo45⟩ := Kd.R_slice HO_962006.out
      subst eo45
      obtain ⟨Ao46, co46, eo46⟩ := Kd.R_slice HO_962007.out
      subst eo46
      go_wp2_with (first | ((with_reducible refine gt_ 103 rfl ?_); refine gs_ 31 Tryz.func103 #[.agg #[.int .i64 a0_0, .bool a0_1, .bool x962002_2, .int .i64 a0_3, .string a0_4, .int .i64 a0_5, .slice Ao45 x962006_2.length co45, .slice Ao46 x962007_2.length co46]] ?_; (with_reducible refine (spec_l4Bytes.calls k2 a0_0 a0_1 x962002_2 a0_3 a0_4 a0_5 _ _ x962006_2 _ _ x962007_2 t977 _ ?side1 ?side2 ?side3 ?side4 A39.out).mono ?_); (case side1 => exact kD_ (Kd.R_reads' HO_962006.out).2.2); (case side2 => exact (Kd.R_reads' HO_962006.out).2.1); (case side3 => exact kD_ (Kd.R_reads' HO_962007.out).2.2); (case side4 => exact (Kd.R_reads' HO_962007.out).2.1); rintro e w47 ⟨rfl, hb⟩; refine ⟨_, rfl, ?_⟩; replace HO_962006 := a0_ (Kd.R_below (kR_ HO_962006.out) hb); replace HO_962007 := a0_ (Kd.R_below (kR_ HO_962007.out) hb); replace BK961 := a0_ (bkB_ BK961 hb); replace BK962 := a0_ (bkB_ BK962 hb); replace HB := a0_ (below_step bq1_ hb); clear hb; obtain ⟨_, _, _, _, _, _, _, _, _, _, _, _, _, _, _, _⟩ := bk8_ BK961.out) | ((with_reducible refine gt_ 104 rfl ?_); refine gs_ 43 Tryz.func104 #[.slice Ao46 x962007_2.length co46] ?_; (with_reducible refine (spec_l4Less.calls k2 _ _ x962007_2 t978 _ ?side1 ?side2 A42.out).mono ?_); (case side1 => exact kD_ (Kd.R_reads' HO_962007.out).2.2); (case side2 => exact (Kd.R_reads' HO_962007.out).2.1); rintro e w49 ⟨v979, rfl, ho0, hb⟩; refine ⟨_, rfl, ?_⟩; have HO980 := a0_ (Kd.R_lower (Kd.R_new' (Kd.R_new' ho0 (Kd.R_lt (kR_ HO_962006.out))) (Kd.R_lt (kR_ HO_962007.out))) (below_size bq1_)); replace HO_962006 := a0_ (Kd.R_elder' (kR_ HO_962006.out) (Kd.R_base ho0) hb); replace HO_962007 := a0_ (Kd.R_elder' (kR_ HO_962007.out) (Kd.R_base ho0) hb); replace BK961 := a0_ (bkB_ BK961 hb); replace BK962 := a0_ (bkB_ BK962 hb); replace HB := a0_ (below_step bq1_ hb); clear hb; (try clear ho0); obtain ⟨Ao50, co50, eo50⟩ := Kd.R_slice HO980.out; subst eo50; obtain ⟨_, _, _, _, _, _, _, _, _, _, _, _, _, _, _, _⟩ := bk8_ BK961.out))
      go_roundg k2
      case measure => have := HJ2.out; have := HK2.out; omega
      case rel => exact ⟨(true), (x962006_2), (t978), (x963000_2), (x963001_2), (x963002_2), (x963003_2), (x963004_2), (x963005_2), (.slice Ao45 x962006_2.length co45), (.slice Ao50 t978.length co50), H', jm_ HJ2 HK2, ⟨by (with_reducible repeat (first | apply Kd.R_alloc | apply Kd.R_drewN | apply Kd.R_drew)); exact Kd.R_mono (Kd.R_far (p := ⟨gb961, 2, none⟩) (Kd.R_far (p := ⟨gb961, 7, none⟩) (Kd.R_types HO_962006.out BK961.out (by decide)) (fun _ hk => hk.2) (.slice Ao50 t978.length co50)) (fun _ hk => hk.2) (.bool true)) (fun _ hk => hk.1.2)⟩, ⟨by (with_reducible repeat (first | apply Kd.R_alloc | apply Kd.R_drewN | apply Kd.R_drew)); exact Kd.R_mono (Kd.R_far (p := ⟨gb961, 2, none⟩) (Kd.R_far (p := ⟨gb961, 7, none⟩) (Kd.R_types HO980.out BK961.out (by decide)) (fun _ hk => hk.2) (.slice Ao50 t978.length co50)) (fun _ hk => hk.2) (.bool true)) (fun _ hk => hk.1.1.2)⟩, ⟨by (with_reducible repeat (first | refine blk_drewN ?_ _ | refine blk_drew ?_ | refine blk_alloc ?_ _)); refine blk_put (cs := #[.int .i64 a0_0, .bool a0_1, .bool x962002_2, .int .i64 a0_3, .string a0_4, .int .i64 a0_5, .slice Ao45 x962006_2.length co45, .slice Ao50 t978.length co50]) ?_ 2 _ rfl; (with_reducible repeat (first | refine blk_drewN ?_ _ | refine blk_drew ?_ | refine blk_alloc ?_ _)); refine blk_put (cs := #[.int .i64 a0_0, .bool a0_1, .bool x962002_2, .int .i64 a0_3, .string a0_4, .int .i64 a0_5, .slice Ao45 x962006_2.length co45, .slice Ao46 x962007_2.length co46]) ?_ 7 _ rfl; (with_reducible repeat (first | refine blk_drewN ?_ _ | refine blk_drew ?_ | refine blk_alloc ?_ _)); exact BK961.out⟩, ⟨bfar2_ NB962_961.out BK962.out⟩, ⟨bq1_⟩⟩
     rw [if_neg c41] at H
     have c41b0 := decide_eq_false c41
     have c41b1 : decide (0 < x962007_2.length) = false := decide_eq_false (by omega)
     clear c41
     by_cases c52 : (x962006_2.length : Int) > 0
     case neg =>
      rw [if_neg c52] at H
      have c52b0 := decide_eq_false c52
      have c52b1 : decide (0 < x962006_2.length) = false := decide_eq_false (by omega)
      clear c52
      simp only [Option.some.injEq, Prod.mk.injEq] at H
      obtain ⟨rfl, rfl, rfl, rfl, rfl, rfl, rfl, rfl, rfl⟩ := H
      have hnb63 := NB961_962.out
      have hnc63 := NB962_961.out
      obtain ⟨_, _, _, _, _, _, _, _, _, _, _, _, _, _, _, _⟩ := bk8_ BK961.out
      obtain ⟨Ao65, co65, eo65⟩ := Kd.R_slice HO_962006.out
      subst eo65
      obtain ⟨Ao66, co66, eo66⟩ := Kd.R_slice HO_962007.out
      subst eo66
      go_wp2_with (first | ((with_reducible refine gt_ 103 rfl ?_); refine gs_ 31 Tryz.func103 #[.agg #[.int .i64 a0_0, .bool a0_1, .bool x962002_2, .int .i64 a0_3, .string a0_4, .int .i64 a0_5, .slice Ao65 x962006_2.length co65, .slice Ao66 x962007_2.length co66]] ?_; (with_reducible refine (spec_l4Bytes.calls k2 a0_0 a0_1 x962002_2 a0_3 a0_4 a0_5 _ _ x962006_2 _ _ x962007_2 t977 _ ?side1 ?side2 ?side3 ?side4 A39.out).mono ?_); (case side1 => exact kD_ (Kd.R_reads' HO_962006.out).2.2); (case side2 => exact (Kd.R_reads' HO_962006.out).2.1); (case side3 => exact kD_ (Kd.R_reads' HO_962007.out).2.2); (case side4 => exact (Kd.R_reads' HO_962007.out).2.1); rintro e w67 ⟨rfl, hb⟩; refine ⟨_, rfl, ?_⟩; replace HO_962006 := a0_ (Kd.R_below (kR_ HO_962006.out) hb); replace HO_962007 := a0_ (Kd.R_below (kR_ HO_962007.out) hb); replace BK961 := a0_ (bkB_ BK961 hb); replace BK962 := a0_ (bkB_ BK962 hb); replace HB := a0_ (below_step bq1_ hb); clear hb; obtain ⟨_, _, _, _, _, _, _, _, _, _, _, _, _, _, _, _⟩ := bk8_ BK961.out; obtain ⟨_, _, _, _, _, _, _, _, _, _, _, _, _, _, _, _⟩ := bk8_ BK962.out))
      refine bodyPost_ret (results_ct rfl _ _ gb962 62 #[.int .i64 0, .bool false, .bool false, .int .i64 0, .string (⟨#[]⟩ : ByteArray), .int .i64 0, .slice none 0 0, .slice none 0 0] (0, 0) _ rfl (put8_ BK962.out) Tryz.underlying62 rfl (by kernel_rfl)) rfl ?_
      exact ⟨_, _, rr_, by first | exact Kd.R_nil _ _ _ _ _ | exact Kd.N_nil _ _ _ _ _ | exact Kd.V_nil _ _ _ _ _ | exact Kd.Q_nil _ _ _ _ _ | exact Kd.S_nil _ _ _ _ _, by first | exact Kd.R_nil _ _ _ _ _ | exact Kd.N_nil _ _ _ _ _ | exact Kd.V_nil _ _ _ _ _ | exact Kd.Q_nil _ _ _ _ _ | exact Kd.S_nil _ _ _ _ _, bq1_⟩
     rw [if_pos c52] at H
     have c52b0 := decide_eq_true c52
     have c52b1 : decide (0 < x962006_2.length) = true := decide_eq_true (by omega)
     clear c52
     obtain ⟨t981, A53, H⟩ := ob_ H
     have H' := a0_ H
     clear H
     have hnb54 := NB961_962.out
     have hnc54 := NB962_961.out
     obtain ⟨_, _, _, _, _, _, _, _, _, _, _, _, _, _, _, _⟩ := bk8_ BK961.out
     obtain ⟨Ao56, co56, eo56⟩ := Kd.R_slice HO_962006.out
     subst eo56
     obtain ⟨Ao57, co57, eo57⟩ := Kd.R_slice HO_962007.out
     subst eo57
     go_wp2_with (first | ((with_reducible refine gt_ 103 rfl ?_); refine gs_ 31 Tryz.func103 #[.agg #[.int .i64 a0_0, .bool a0_1, .bool x962002_2, .int .i64 a0_3, .string a0_4, .int .i64 a0_5, .slice Ao56 x962006_2.length co56, .slice Ao57 x962007_2.length co57]] ?_; (with_reducible refine (spec_l4Bytes.calls k2 a0_0 a0_1 x962002_2 a0_3 a0_4 a0_5 _ _ x962006_2 _ _ x962007_2 t977 _ ?side1 ?side2 ?side3 ?side4 A39.out).mono ?_); (case side1 => exact kD_ (Kd.R_reads' HO_962006.out).2.2); (case side2 => exact (Kd.R_reads' HO_962006.out).2.1); (case side3 => exact kD_ (Kd.R_reads' HO_962007.out).2.2); (case side4 => exact (Kd.R_reads' HO_962007.out).2.1); rintro e w58 ⟨rfl, hb⟩; refine ⟨_, rfl, ?_⟩; replace HO_962006 := a0_ (Kd.R_below (kR_ HO_962006.out) hb); replace HO_962007 := a0_ (Kd.R_below (kR_ HO_962007.out) hb); replace BK961 := a0_ (bkB_ BK961 hb); replace BK962 := a0_ (bkB_ BK962 hb); replace HB := a0_ (below_step bq1_ hb); clear hb; obtain ⟨_, _, _, _, _, _, _, _, _, _, _, _, _, _, _, _⟩ := bk8_ BK961.out) | ((with_reducible refine gt_ 104 rfl ?_); refine gs_ 52 Tryz.func104 #[.slice Ao56 x962006_2.length co56] ?_; (with_reducible refine (spec_l4Less.calls k2 _ _ x962006_2 t981 _ ?side1 ?side2 A53.out).mono ?_); (case side1 => exact kD_ (Kd.R_reads' HO_962006.out).2.2); (case side2 => exact (Kd.R_reads' HO_962006.out).2.1); rintro e w60 ⟨v982, rfl, ho0, hb⟩; refine ⟨_, rfl, ?_⟩; have HO983 := a0_ (Kd.R_lower (Kd.R_new' (Kd.R_new' ho0 (Kd.R_lt (kR_ HO_962006.out))) (Kd.R_lt (kR_ HO_962007.out))) (below_size bq1_)); replace HO_962006 := a0_ (Kd.R_elder' (kR_ HO_962006.out) (Kd.R_base ho0) hb); replace HO_962007 := a0_ (Kd.R_elder' (kR_ HO_962007.out) (Kd.R_base ho0) hb); replace BK961 := a0_ (bkB_ BK961 hb); replace BK962 := a0_ (bkB_ BK962 hb); replace HB := a0_ (below_step bq1_ hb); clear hb; (try clear ho0); obtain ⟨Ao61, co61, eo61⟩ := Kd.R_slice HO983.out; subst eo61; obtain ⟨_, _, _, _, _, _, _, _, _, _, _, _, _, _, _, _⟩ := bk8_ BK961.out))
     go_roundg k2
     case measure => have := HJ2.out; have := HK2.out; omega
     case rel => exact ⟨(true), (t981), (x962007_2), (x963000_2), (x963001_2), (x963002_2), (x963003_2), (x963004_2), (x963005_2), (.slice Ao61 t981.length co61), (.slice Ao57 x962007_2.length co57), H', jm_ HJ2 HK2, ⟨by (with_reducible repeat (first | apply Kd.R_alloc | apply Kd.R_drewN | apply Kd.R_drew)); exact Kd.R_mono (Kd.R_far (p := ⟨gb961, 2, none⟩) (Kd.R_far (p := ⟨gb961, 6, none⟩) (Kd.R_types HO983.out BK961.out (by decide)) (fun _ hk => hk.2) (.slice Ao61 t981.length co61)) (fun _ hk => hk.2) (.bool true)) (fun _ hk => hk.1.2)⟩, ⟨by (with_reducible repeat (first | apply Kd.R_alloc | apply Kd.R_drewN | apply Kd.R_drew)); exact Kd.R_mono (Kd.R_far (p := ⟨gb961, 2, none⟩) (Kd.R_far (p := ⟨gb961, 6, none⟩) (Kd.R_types HO_962007.out BK961.out (by decide)) (fun _ hk => hk.2) (.slice Ao61 t981.length co61)) (fun _ hk => hk.2) (.bool true)) (fun _ hk => hk.1.2)⟩, ⟨by (with_reducible repeat (first | refine blk_drewN ?_ _ | refine blk_drew ?_ | refine blk_alloc ?_ _)); refine blk_put (cs := #[.int .i64 a0_0, .bool a0_1, .bool x962002_2, .int .i64 a0_3, .string a0_4, .int .i64 a0_5, .slice Ao61 t981.length co61, .slice Ao57 x962007_2.length co57]) ?_ 2 _ rfl; (with_reducible repeat (first | refine blk_drewN ?_ _ | refine blk_drew ?_ | refine blk_alloc ?_ _)); refine blk_put (cs := #[.int .i64 a0_0, .bool a0_1, .bool x962002_2, .int .i64 a0_3, .string a0_4, .int .i64 a0_5, .slice Ao56 x962006_2.length co56, .slice Ao57 x962007_2.length co57]) ?_ 6 _ rfl; (with_reducible repeat (first | refine blk_drewN ?_ _ | refine blk_drew ?_ | refine blk_alloc ?_ _)); exact BK961.out⟩, ⟨bfar2_ NB962_961.out BK962.out⟩, ⟨bq1_⟩⟩
end Go.Proofs.YtiegkjimpclmaaaGreatDoor.P
namespace Go.Proofs.YtiegkjimpclmaaaGreatDoor.Pure
open Go.Proofs.YtiegkjimpclmaaaGreatDoor.P
def Laid (b s r : ByteArray) : Prop := ∃ y pl, r = b ++ y ∧ Reads r b.size b.size ((labelsL s.data.toList).map mkB) pl r.size ∧ y.size ≤ s.size + (if s.size = 0 then 1 else 2)
theorem put_laid (b s : ByteArray) (hb : b.size ≤ 2000) (hg : goodL s.data.toList = true) : ∃ r, Ev (fun k => spec_l2Put.f k b s) r ∧ Ev (fun k => impl_putName.f k b s) r ∧ Laid b s r := by
 have hsz := good_size hg
 rw [← size_len] at hsz
 obtain ⟨r, e1, e2⟩ := put_both b hb s hsz hg
 refine ⟨r, e1, e2, ?_⟩
 obtain ⟨places, _, p2, _, p4⟩ := suff2 b hb b.size 0 [] (by omega) (by omega) (by simp; omega) (fun x hx => by cases hx)
 obtain ⟨K, e2⟩ := e2
 have h := e2 K (Nat.le_refl _)
 unfold impl_putName.f at h
 obtain ⟨pl, hp, h⟩ := Option.bind_eq_some_iff.mp h
 have e : pl = places := evUnique2 (Ev.of (fun k => impl_suffixesOf.mono b k) hp) (Ev.congr (fun k => rfl) p2)
 rw [e] at h
 obtain ⟨y, pl', h1, h2, h3⟩ := put_reads b hb places p4 K (⟨#[]⟩ : ByteArray) s r h hg
 have e0 : b ++ (⟨#[]⟩ : ByteArray) = b := by
  refine ext_data ?_
  simp
 rw [e0] at h1
 rw [show (⟨#[]⟩ : ByteArray).size = 0 from rfl, Nat.add_zero] at h2
 exact ⟨y, pl', h1, h2, h3⟩
theorem laid_size {b s r : ByteArray} (h : Laid b s r) : b.size ≤ r.size ∧ r.size ≤ b.size + s.size + 2 := by
 obtain ⟨y, pl, rfl, _, hy⟩ := h
 rw [ByteArray.size_append]
 split at hy <;> omega
theorem nm_rd (l : List ByteArray) (i : Nat) (h : i < l.length) : rdOf ByteArray.empty l (i : Int) = l[i] := by
 unfold rdOf
 rw [Int.toNat_natCast, List.getD_eq_getElem?_getD, List.getElem?_eq_getElem h]
 rfl
theorem nm_w {n : Nat} (h : n < 4611686018427387904) : wrap64 ((n : Int) + 1) = ((n + 1 : Nat) : Int) := by unfold wrap64; omega
theorem names_loop (l : List ByteArray) (hl : l.length ≤ 25) (hg : ∀ x ∈ l, goodL x.data.toList = true) : ∀ (m i : Nat) (b : ByteArray), i + m = l.length → b.size ≤ 64 * i →
 ∃ r, Ev (fun k => spec_l4Names.l0 k b l (l.length : Int) (i : Int)) r ∧ b.size ≤ r.size ∧ r.size ≤ 2000 ∧
  (b.size ≤ 600 → Ev (fun k => impl_packed.l0 k b l (l.length : Int) (i : Int)) (if r.size ≤ 600 then (r, true) else ((⟨#[]⟩ : ByteArray), false)))
 | 0, i, b, hi, hb => by
  refine ⟨b, Ev.step (f := fun _ => some b) (fun k => ?_) (Ev.now _), Nat.le_refl _, by omega, fun h6 => Ev.step (f := fun _ => some (b, true)) (fun k => ?_) ?_⟩
  · rw [spec_l4Names.l0, if_neg (by omega)]
  · rw [impl_packed.l0, if_neg (by omega)]
  · rw [if_pos h6]; exact Ev.now _
 | m + 1, i, b, hi, hb => by
  have hlt : i < l.length := by omega
  have hgi := hg l[i] (List.getElem_mem hlt)
  have hsz := good_size hgi
  rw [← size_len] at hsz
  obtain ⟨t, e1, e2, ht⟩ := put_laid b l[i] (by omega) hgi
  obtain ⟨s1, s2⟩ := laid_size ht
  obtain ⟨r, q1, q2, q3, q4⟩ := names_loop l hl hg m (i + 1) t (by omega) (by omega)
  refine ⟨r, Ev.step (f := fun k => (spec_l2Put.f k b l[i]).bind fun t915 => spec_l4Names.l0 k t915 l (l.length : Int) ((i + 1 : Nat) : Int)) (fun k => ?_) (Ev.bind e1 q1), by omega, q3, fun h6 => ?_⟩
  · rw [spec_l4Names.l0, if_pos (by omega), if_pos (by omega), if_pos (by omega), nm_rd l i hlt, nm_w (by omega)]
  · refine Ev.step (f := fun k => (impl_putName.f k b l[i]).bind fun t1026 => if (t1026.size : Int) > 600 then some ((⟨#[]⟩ : ByteArray), false) else impl_packed.l0 k t1026 l (l.length : Int) ((i + 1 : Nat) : Int)) (fun k => ?_) (Ev.bind e2 ?_)
    · rw [impl_packed.l0, if_pos (by omega), if_pos (by omega), if_pos (by omega), nm_rd l i hlt, nm_w (by omega)]
    · by_cases c : t.size ≤ 600
      · simp only [if_neg (show ¬ (t.size : Int) > 600 by omega)]
        exact q4 c
      · simp only [if_pos (show (t.size : Int) > 600 by omega), if_neg (show ¬ r.size ≤ 600 by omega)]
        exact Ev.now _
theorem names_both (l : List ByteArray) (hl : l.length ≤ 25) (hg : ∀ x ∈ l, goodL x.data.toList = true) : ∃ r, Ev (fun k => spec_l4Names.f k l) r ∧ r.size ≤ 2000 ∧ Ev (fun k => impl_packed.f k l) (if r.size ≤ 600 then (r, true) else ((⟨#[]⟩ : ByteArray), false)) := by
 obtain ⟨r, q1, _, q3, q4⟩ := names_loop l hl hg l.length 0 (⟨#[]⟩ : ByteArray) (by omega) (Nat.zero_le _)
 exact ⟨r, q1, q3, q4 (Nat.zero_le _)⟩
end Go.Proofs.YtiegkjimpclmaaaGreatDoor.Pure
namespace Go.Proofs.YtiegkjimpclmaaaGreatDoor.P
attribute [local go_sem] max2_int min2_int max_two min_two max_three min_three max_four min_four
mutual
def impl_CutMessage.j0 : Nat → Int → Bool → Int → Bool → Bool → Int → ByteArray → Int → List (S45) → List (S45) → Option (Int × Bool × Bool × Int × ByteArray × Int × (List (S45)) × (List (S45)) × Bool)
 | 0, _, _, _, _, _, _, _, _, _, _ => none
 | k + 1, x1, x20, x1067000, x1067001, x1067002, x1067003, x1067004, x1067005, x1067006, x1067007 => if x20 = true then (some (0, false, false, 0, (⟨#[]⟩ : ByteArray), 0, ([] : List (S45)), ([] : List (S45)), false)) else (impl_CutMessage.l0 k x1 x1067000 x1067001 x1067002 x1067003 x1067004 x1067005 x1067006 x1067007)
def impl_CutMessage.l0 : Nat → Int → Int → Bool → Bool → Int → ByteArray → Int → List (S45) → List (S45) → Option (Int × Bool × Bool × Int × ByteArray × Int × (List (S45)) × (List (S45)) × Bool)
 | 0, _, _, _, _, _, _, _, _, _ => none
 | k + 1, x1, x1067000, x1067001, x1067002, x1067003, x1067004, x1067005, x1067006, x1067007 => (impl_messageBytes.f k x1067000 x1067001 x1067002 x1067003 x1067004 x1067005 x1067006 x1067007).bind fun bt1070 => (if bt1070.2 = true then (impl_CutMessage.j2 k x1 (decide ((bt1070.1.size : Int) ≤ x1)) x1067000 x1067001 x1067002 x1067003 x1067004 x1067005 x1067006 x1067007) else (impl_CutMessage.j2 k x1 false x1067000 x1067001 x1067002 x1067003 x1067004 x1067005 x1067006 x1067007))
def impl_CutMessage.j2 : Nat → Int → Bool → Int → Bool → Bool → Int → ByteArray → Int → List (S45) → List (S45) → Option (Int × Bool × Bool × Int × ByteArray × Int × (List (S45)) × (List (S45)) × Bool)
 | 0, _, _, _, _, _, _, _, _, _, _ => none
 | k + 1, x1, x33, x1067000, x1067001, x1067002, x1067003, x1067004, x1067005, x1067006, x1067007 => if x33 = true then ((impl_ownMessage.f x1067000 x1067001 x1067002 x1067003 x1067004 x1067005 x1067006 x1067007).bind fun bt1072 => (some (bt1072.1, bt1072.2.1, bt1072.2.2.1, bt1072.2.2.2.1, bt1072.2.2.2.2.1, bt1072.2.2.2.2.2.1, bt1072.2.2.2.2.2.2.1, bt1072.2.2.2.2.2.2.2, true))) else (if (x1067007.length : Int) > 0 then ((impl_withoutLast.f k x1067007).bind fun t1084 => (impl_CutMessage.l0 k x1 x1067000 x1067001 true x1067003 x1067004 x1067005 x1067006 t1084)) else (if (x1067006.length : Int) > 0 then ((impl_withoutLast.f k x1067006).bind fun t1087 => (impl_CutMessage.l0 k x1 x1067000 x1067001 true x1067003 x1067004 x1067005 t1087 x1067007)) else (some (0, false, false, 0, (⟨#[]⟩ : ByteArray), 0, ([] : List (S45)), ([] : List (S45)), false))))
end
def impl_CutMessage.f (k : Nat) (a0_0 : Int) (a0_1 : Bool) (a0_2 : Bool) (a0_3 : Int) (a0_4 : ByteArray) (a0_5 : Int) (l0_6 : List (S45)) (l0_7 : List (S45)) (a1 : Int) : Option (Int × Bool × Bool × Int × ByteArray × Int × (List (S45)) × (List (S45)) × Bool) := (impl_GoodMessage.f k a0_0 a0_1 a0_2 a0_3 a0_4 a0_5 l0_6 l0_7).bind fun t1068 => (if t1068 = true then (if a0_1 = true then ((impl_within.f a1 20 600).bind fun t1069 => (impl_CutMessage.j0 k a1 (!t1069) a0_0 a0_1 a0_2 a0_3 a0_4 a0_5 l0_6 l0_7)) else (impl_CutMessage.j0 k a1 true a0_0 a0_1 a0_2 a0_3 a0_4 a0_5 l0_6 l0_7)) else (impl_CutMessage.j0 k a1 true a0_0 a0_1 a0_2 a0_3 a0_4 a0_5 l0_6 l0_7))
theorem impl_CutMessage.calls (k : Nat) (a0_0 : Int) (a0_1 : Bool) (a0_2 : Bool) (a0_3 : Int) (a0_4 : ByteArray) (a0_5 : Int) (A6 : Option Addr) (c6 : Nat) (l0_6 : List (S45)) (A7 : Option Addr) (c7 : Nat) (l0_7 : List (S45)) (a1 : Int) (r1 : Int) (r2 : Bool) (r3 : Bool) (r4 : Int) (r5 : ByteArray) (r6 : Int) (r7 : List (S45)) (r8 : List (S45)) (r9 : Bool) (w : World) (hr6 : Kd.C k45 w A6 l0_6.length l0_6) (hc6 : l0_6.length ≤ c6) (hr7 : Kd.C k45 w A7 l0_7.length l0_7) (hc7 : l0_7.length ≤ c7) (h : impl_CutMessage.f k a0_0 a0_1 a0_2 a0_3 a0_4 a0_5 l0_6 l0_7 a1 = some (r1, r2, r3, r4, r5, r6, r7, r8, r9)) (hv_ : Vars w := by exact vv_) :
 Calls Tryz.prog 41 #[.agg #[.int .i64 a0_0, .bool a0_1, .bool a0_2, .int .i64 a0_3, .string a0_4, .int .i64 a0_5, .slice A6 l0_6.length c6, .slice A7 l0_7.length c7], .int .i64 a1] w fun e w' => ∃ v6_ v7_ : Value, e = .returned (.tuple #[.agg #[.int .i64 r1, .bool r2, .bool r3, .int .i64 r4, .string r5, .int .i64 r6, v6_, v7_], .bool r9]) ∧ Kd.R k45 45 w' w.heap.size (fun k_ => some k_ ≠ (v7_ : Value).ownBlock) v6_ r7 ∧ Kd.R k45 45 w' w.heap.size (fun k_ => some k_ ≠ (v6_ : Value).ownBlock) v7_ r8 ∧ Below w.heap.size w w' := by
 have HV_ := a0_ hv_
 have hu62 := Tryz.underlying62
 have HR6 := a0_ hr6
 have HC6 := a0_ hc6
 have HR7 := a0_ hr7
 have HC7 := a0_ hc7
 have HB := a0_ (Below.refl w.heap.size w)
 clear hv_ hr6 hc6 hr7 hc7
 have H := h
 clear h
 unfold impl_CutMessage.f at H
 have HC3 := a0_ H
 clear H
 go_enter Tryz.func41, Tryz.ntmps41
 go_upto_region 1 with (first | ((with_reducible refine gate_dst (N := 2) rfl ?_); (try (refine gate_guard (by rfl) ?_; dsimp only)); refine boxS_ 2 #[.int .i64 a0_0, .bool a0_1, .bool a0_2, .int .i64 a0_3, .string a0_4, .int .i64 a0_5, .slice A6 l0_6.length c6, .slice A7 l0_7.length c7] 62 (fun gb1066 hg w6 hbox hb => ?_); have BK1066 := a0_ (hbox); have GW1066 := a0_ ((by rw [hg]; exact (below_size bq1_) : w.heap.size ≤ gb1066)); have GE1066 := a0_ ((by rw [hg]; exact (below_size bq0_) : w.heap.size ≤ gb1066)); replace HB := a0_ (below_step bq0_ hb); clear hb hbox hg) | ((with_reducible refine gate_dst (N := 4) rfl ?_); (try (refine gate_guard (by rfl) ?_; dsimp only)); refine boxS_ 4 #[.int .i64 0, .bool false, .bool false, .int .i64 0, .string (⟨#[]⟩ : ByteArray), .int .i64 0, .slice none 0 0, .slice none 0 0] 62 (fun gb1067 hg w7 hbox hb => ?_); have BK1067 := a0_ (hbox); have GW1067 := a0_ ((by rw [hg]; exact (below_size bq1_) : w.heap.size ≤ gb1067)); have GE1067 := a0_ ((by rw [hg]; exact (below_size bq1_) : w.heap.size ≤ gb1067)); replace HB := a0_ (below_step bq1_ hb); have NB1066_1067 := a0_ ((by rw [hg]; exact Nat.ne_of_lt (blk_lt (g := gb1066) (o := .cells #[.int .i64 a0_0, .bool a0_1, .bool a0_2, .int .i64 a0_3, .string a0_4, .int .i64 a0_5, .slice A6 l0_6.length c6, .slice A7 l0_7.length c7] 62 (0, 0)) (kB_ BK1066.out)) : gb1066 ≠ gb1067)); have NB1067_1066 := a0_ ((by rw [hg]; exact Nat.ne_of_gt (blk_lt (g := gb1066) (o := .cells #[.int .i64 a0_0, .bool a0_1, .bool a0_2, .int .i64 a0_3, .string a0_4, .int .i64 a0_5, .slice A6 l0_6.length c6, .slice A7 l0_7.length c7] 62 (0, 0)) (kB_ BK1066.out)) : gb1067 ≠ gb1066)); replace BK1066 := a0_ (bkB_ BK1066 hb); clear hb hbox hg))
 (try simp only [Act.put, List.setIfInBounds_toArray, List.set_cons_zero, List.set_cons_succ])
 go_cut [20] (fun v20 wc => ∃ (kq : Nat) (x20_2 : Bool), v20 = .bool x20_2 ∧ Aside0 (impl_CutMessage.j0 kq a1 x20_2 a0_0 a0_1 a0_2 a0_3 a0_4 a0_5 l0_6 l0_7 = some (r1, r2, r3, r4, r5, r6, r7, r8, r9)) ∧ Aside0 (kq ≤ k) ∧ Aside0 (wc.heap[gb1066]? = some (.cells #[.int .i64 a0_0, .bool a0_1, .bool a0_2, .int .i64 a0_3, .string a0_4, .int .i64 a0_5, (.slice A6 l0_6.length c6), (.slice A7 l0_7.length c7)] 62 (0, 0))) ∧ Aside0 (wc.heap[gb1067]? = some (.cells #[.int .i64 0, .bool false, .bool false, .int .i64 0, .string (⟨#[]⟩ : ByteArray), .int .i64 0, (.slice none 0 0), (.slice none 0 0)] 62 (0, 0))) ∧ Aside0 (Below w.heap.size w wc))
 case first =>
  have H := HC3.out
  clear HC3
  obtain ⟨t1068, A8, H⟩ := ob_ H
  by_cases c9 : t1068 = true
  case neg =>
   replace c9 := Bool.eq_false_iff.mpr c9
   subst c9
   rw [if_neg ff_] at H
   have H' := a0_ H
   clear H
   have hnb20 := NB1066_1067.out
   have hnc20 := NB1067_1066.out
   obtain ⟨z21_0, z21_1, z21_2, z21_3, z21_4, z21_5, z21_6, z21_7, q21_0, q21_1, q21_2, q21_3, q21_4, q21_5, q21_6, q21_7⟩ := bk8_ BK1066.out
   go_wp2_with (first | ((with_reducible refine gt_ 105 rfl ?_); refine gs_ 9 Tryz.func105 #[.agg #[.int .i64 a0_0, .bool a0_1, .bool a0_2, .int .i64 a0_3, .string a0_4, .int .i64 a0_5, .slice A6 l0_6.length c6, .slice A7 l0_7.length c7]] ?_; (with_reducible refine (impl_GoodMessage.calls k a0_0 a0_1 a0_2 a0_3 a0_4 a0_5 _ _ l0_6 _ _ l0_7 false _ ?side1 ?side2 ?side3 ?side4 A8.out).mono ?_); (case side1 => exact kC_ HR6.out HB.out); (case side2 => exact HC6.out); (case side3 => exact kC_ HR7.out HB.out); (case side4 => exact HC7.out); rintro e w22 ⟨rfl, hb⟩; refine ⟨_, rfl, ?_⟩; replace BK1066 := a0_ (bkB_ BK1066 hb); replace BK1067 := a0_ (bkB_ BK1067 hb); replace HB := a0_ (below_step bq1_ hb); clear hb))
   go_meet
   case rel => exact ⟨_, (true), rs_, H', ⟨by first | omega | exact Nat.le_refl _⟩, ⟨bz_⟩, ⟨bz_⟩, ⟨bq1_⟩⟩
  subst c9
  rw [if_pos rfl] at H
  by_cases c10 : a0_1 = true
  case neg =>
   replace c10 := Bool.eq_false_iff.mpr c10
   subst c10
   rw [if_neg ff_] at H
   have H' := a0_ H
   clear H
   have hnb16 := NB1066_1067.out
   have hnc16 := NB1067_1066.out
   obtain ⟨z17_0, z17_1, z17_2, z17_3, z17_4, z17_5, z17_6, z17_7, q17_0, q17_1, q17_2, q17_3, q17_4, q17_5, q17_6, q17_7⟩ := bk8_ BK1066.out
   go_wp2_with (first | ((with_reducible refine gt_ 105 rfl ?_); refine gs_ 9 Tryz.func105 #[.agg #[.int .i64 a0_0, .bool false, .bool a0_2, .int .i64 a0_3, .string a0_4, .int .i64 a0_5, .slice A6 l0_6.length c6, .slice A7 l0_7.length c7]] ?_; (with_reducible refine (impl_GoodMessage.calls k a0_0 false a0_2 a0_3 a0_4 a0_5 _ _ l0_6 _ _ l0_7 true _ ?side1 ?side2 ?side3 ?side4 A8.out).mono ?_); (case side1 => exact kC_ HR6.out HB.out); (case side2 => exact HC6.out); (case side3 => exact kC_ HR7.out HB.out); (case side4 => exact HC7.out); rintro e w18 ⟨rfl, hb⟩; refine ⟨_, rfl, ?_⟩; replace BK1066 := a0_ (bkB_ BK1066 hb); replace BK1067 := a0_ (bkB_ BK1067 hb); replace HB := a0_ (below_step bq1_ hb); clear hb; obtain ⟨z19_0, z19_1, z19_2, z19_3, z19_4, z19_5, z19_6, z19_7, q19_0, q19_1, q19_2, q19_3, q19_4, q19_5, q19_6, q19_7⟩ := bk8_ BK1066.out))
   go_meet
   case rel => exact ⟨_, (true), rs_, H', ⟨by first | omega | exact Nat.le_refl _⟩, ⟨bz_⟩, ⟨bz_⟩, ⟨bq1_⟩⟩
  subst c10
  rw [if_pos rfl] at H
  obtain ⟨t1069, A11, H⟩ := ob_ H
  have H' := a0_ H
  clear H
  have hnb12 := NB1066_1067.out
  have hnc12 := NB1067_1066.out
  obtain ⟨z13_0, z13_1, z13_2, z13_3, z13_4, z13_5, z13_6, z13_7, q13_0, q13_1, q13_2, q13_3, q13_4, q13_5, q13_6, q13_7⟩ := bk8_ BK1066.out
  go_wp2_with (first | ((with_reducible refine gt_ 105 rfl ?_); refine gs_ 9 Tryz.func105 #[.agg #[.int .i64 a0_0, .bool true, .bool a0_2, .int .i64 a0_3, .string a0_4, .int .i64 a0_5, .slice A6 l0_6.length c6, .slice A7 l0_7.length c7]] ?_; (with_reducible refine (impl_GoodMessage.calls k a0_0 true a0_2 a0_3 a0_4 a0_5 _ _ l0_6 _ _ l0_7 true _ ?side1 ?side2 ?side3 ?side4 A8.out).mono ?_); (case side1 => exact kC_ HR6.out HB.out); (case side2 => exact HC6.out); (case side3 => exact kC_ HR7.out HB.out); (case side4 => exact HC7.out); rintro e w14 ⟨rfl, hb⟩; refine ⟨_, rfl, ?_⟩; replace BK1066 := a0_ (bkB_ BK1066 hb); replace BK1067 := a0_ (bkB_ BK1067 hb); replace HB := a0_ (below_step bq1_ hb); clear hb; obtain ⟨z15_0, z15_1, z15_2, z15_3, z15_4, z15_5, z15_6, z15_7, q15_0, q15_1, q15_2, q15_3, q15_4, q15_5, q15_6, q15_7⟩ := bk8_ BK1066.out) | (go_at_call 84; (with_reducible refine (impl_within.calls a1 20 600 t1069 _ A11.out).mono ?_); rintro e w' ⟨rfl, ⟨nd, rfl⟩⟩))
  go_meet
  case rel => exact ⟨_, (!t1069), rs_, H', ⟨by first | omega | exact Nat.le_refl _⟩, ⟨bz_⟩, ⟨bz_⟩, ⟨bq1_⟩⟩
 case rest =>
  clear HC3
  obtain ⟨kq, x20_2, rfl, HA, HJ2, BK1066, BK1067, HB⟩ := hcut
  cases kq with
  | zero => exact absurd HA.out (by simp [impl_CutMessage.j0])
  | succ kj2 =>
   have H := HA.out
   clear HA
   simp only [impl_CutMessage.j0] at H
   by_cases c23 : x20_2 = true
   case pos =>
    subst c23
    rw [if_pos rfl] at H
    simp only [Option.some.injEq, Prod.mk.injEq] at H
    obtain ⟨rfl, rfl, rfl, rfl, rfl, rfl, rfl, rfl, rfl⟩ := H
    have hnb24 := NB1067_1066.out
    have hnc24 := NB1066_1067.out
    obtain ⟨z25_0, z25_1, z25_2, z25_3, z25_4, z25_5, z25_6, z25_7, q25_0, q25_1, q25_2, q25_3, q25_4, q25_5, q25_6, q25_7⟩ := bk8_ BK1067.out
    go_wp2
    refine bodyPost_ret (results_ct rfl _ _ gb1067 62 #[.int .i64 0, .bool false, .bool false, .int .i64 0, .string (⟨#[]⟩ : ByteArray), .int .i64 0, .slice none 0 0, .slice none 0 0] (0, 0) _ rfl (put8_ BK1067.out) Tryz.underlying62 rfl (by kernel_rfl)) rfl ?_
    exact ⟨_, _, rr_, by first | exact Kd.R_nil _ _ _ _ _ | exact Kd.N_nil _ _ _ _ _ | exact Kd.V_nil _ _ _ _ _ | exact Kd.Q_nil _ _ _ _ _ | exact Kd.S_nil _ _ _ _ _, by first | exact Kd.R_nil _ _ _ _ _ | exact Kd.N_nil _ _ _ _ _ | exact Kd.V_nil _ _ _ _ _ | exact Kd.Q_nil _ _ _ _ _ | exact Kd.S_nil _ _ _ _ _, bq1_⟩
   replace c23 := Bool.eq_false_iff.mpr c23
   subst c23
   rw [if_neg ff_] at H
   have H' := a0_ H
   clear H
   go_wp2
   go_loopg [] kj2 (fun kq w' => ∃ (x1067002_2 : Bool) (x1067006_2 : List (S45)) (x1067007_2 : List (S45)) (x1068000_2 : Int) (x1068001_2 : Bool) (x1068002_2 : Bool) (x1068003_2 : Int) (x1068004_2 : ByteArray) (x1068005_2 : Int), Aside0 (impl_CutMessage.l0 kq a1 a0_0 a0_1 x1067002_2 a0_3 a0_4 a0_5 x1067006_2 x1067007_2 = some (r1, r2, r3, r4, r5, r6, r7, r8, r9)) ∧ Aside0 (kq ≤ kj2) ∧ Aside0 (Kd.C k45 w A6 x1067006_2.length x1067006_2) ∧ Aside0 (x1067006_2.length ≤ c6) ∧ Aside0 (Kd.C k45 w A7 x1067007_2.length x1067007_2) ∧ Aside0 (x1067007_2.length ≤ c7) ∧ Aside0 (w'.heap[gb1066]? = some (.cells #[.int .i64 a0_0, .bool a0_1, .bool x1067002_2, .int .i64 a0_3, .string a0_4, .int .i64 a0_5, .slice A6 x1067006_2.length c6, .slice A7 x1067007_2.length c7] 62 (0, 0))) ∧ Aside0 (w'.heap[gb1067]? = some (.cells #[.int .i64 x1068000_2, .bool x1068001_2, .bool x1068002_2, .int .i64 x1068003_2, .string x1068004_2, .int .i64 x1068005_2, (.slice none 0 0), (.slice none 0 0)] 62 (0, 0))) ∧ Aside0 (Below w.heap.size w w'))
   case atStart => exact ⟨(a0_2), (l0_6), (l0_7), (0), (false), (false), (0), ((⟨#[]⟩ : ByteArray)), (0), H', ⟨Nat.le_refl _⟩, HR6, HC6, HR7, HC7, ⟨bz_⟩, ⟨bz_⟩, ⟨bq1_⟩⟩
   case round =>
    clear H'
    try clear c1
    try clear c2
    try clear p2
    try clear c4
    try clear c9
    try clear c10
    try clear c12
    try clear c16
    try clear c20
    try clear c23
    try clear z13_0 z13_1 z13_2 z13_3 z13_4 z13_5 z13_6 z13_7
    try clear z15_0 z15_1 z15_2 z15_3 z15_4 z15_5 z15_6 z15_7
    try clear z17_0 z17_1 z17_2 z17_3 z17_4 z17_5 z17_6 z17_7
    try clear z19_0 z19_1 z19_2 z19_3 z19_4 z19_5 z19_6 z19_7
    try clear z21_0 z21_1 z21_2 z21_3 z21_4 z21_5 z21_6 z21_7
    try clear q13_0 q13_1 q13_2 q13_3 q13_4 q13_5 q13_6 q13_7
    try clear q15_0 q15_1 q15_2 q15_3 q15_4 q15_5 q15_6 q15_7
    try clear q17_0 q17_1 q17_2 q17_3 q17_4 q17_5 q17_6 q17_7
    try clear q19_0 q19_1 q19_2 q19_3 q19_4 q19_5 q19_6 q19_7
    try clear q21_0 q21_1 q21_2 q21_3 q21_4 q21_5 q21_6 q21_7
    try clear p2
    obtain ⟨x1067002_2, x1067006_2, x1067007_2, x1068000_2, x1068001_2, x1068002_2, x1068003_2, x1068004_2, x1068005_2, HA, HK2, HR6, HC6, HR7, HC7, BK1066, BK1067, HB⟩ := hrel
    cases gk with
    | zero => exact absurd HA.out (by simp [impl_CutMessage.l0])
    | succ k2 =>
     have H := HA.out
     clear HA
     simp only [impl_CutMessage.l0] at H
     obtain ⟨⟨t1070, t1071⟩, A26, H⟩ := ob_ H
     have HC27 := a0_ H
     clear H
     have hnb28 := NB1066_1067.out
     have hnc28 := NB1067_1066.out
     obtain ⟨z29_0, z29_1, z29_2, z29_3, z29_4, z29_5, z29_6, z29_7, q29_0, q29_1, q29_2, q29_3, q29_4, q29_5, q29_6, q29_7⟩ := bk8_ BK1066.out
     go_upto_region 4 with (first | ((with_reducible refine gt_ 106 rfl ?_); refine gs_ 24 Tryz.func106 #[.agg #[.int .i64 a0_0, .bool a0_1, .bool x1067002_2, .int .i64 a0_3, .string a0_4, .int .i64 a0_5, .slice A6 x1067006_2.length c6, .slice A7 x1067007_2.length c7]] ?_; (with_reducible refine (impl_messageBytes.calls k2 a0_0 a0_1 x1067002_2 a0_3 a0_4 a0_5 _ _ x1067006_2 _ _ x1067007_2 t1070 t1071 _ ?side1 ?side2 ?side3 ?side4 A26.out).mono ?_); (case side1 => exact kC_ HR6.out HB.out); (case side2 => exact HC6.out); (case side3 => exact kC_ HR7.out HB.out); (case side4 => exact HC7.out); rintro e w32 ⟨rfl, hb⟩; refine ⟨_, rfl, ?_⟩; replace BK1066 := a0_ (bkB_ BK1066 hb); replace BK1067 := a0_ (bkB_ BK1067 hb); replace HB := a0_ (below_step bq1_ hb); clear hb))
     (try simp only [Act.put, List.setIfInBounds_toArray, List.set_cons_zero, List.set_cons_succ])
     go_cut [33] (fun v33 wc => ∃ (kq : Nat) (x33_26 : Bool), v33 = .bool x33_26 ∧ Aside0 (impl_CutMessage.j2 kq a1 x33_26 a0_0 a0_1 x1067002_2 a0_3 a0_4 a0_5 x1067006_2 x1067007_2 = some (r1, r2, r3, r4, r5, r6, r7, r8, r9)) ∧ Aside0 (kq ≤ k2) ∧ Aside0 (wc.heap[gb1066]? = some (.cells #[.int .i64 a0_0, .bool a0_1, .bool x1067002_2, .int .i64 a0_3, .string a0_4, .int .i64 a0_5, (.slice A6 x1067006_2.length c6), (.slice A7 x1067007_2.length c7)] 62 (0, 0))) ∧ Aside0 (wc.heap[gb1067]? = some (.cells #[.int .i64 x1068000_2, .bool x1068001_2, .bool x1068002_2, .int .i64 x1068003_2, .string x1068004_2, .int .i64 x1068005_2, (.slice none 0 0), (.slice none 0 0)] 62 (0, 0))) ∧ Aside0 (Below w.heap.size w wc))
     case first =>
      have H := HC27.out
      clear HC27
      by_cases c33 : t1071 = true
      case pos =>
       subst c33
       rw [if_pos rfl] at H
       have H' := a0_ H
       clear H
       go_wp2
       go_meet
       case rel => exact ⟨_, (decide ((t1070.size : Int) ≤ a1)), rs_, H', ⟨by have := HJ2.out; have := HK2.out; first | omega | exact Nat.le_refl _⟩, ⟨bz_⟩, ⟨bz_⟩, ⟨bq1_⟩⟩
      replace c33 := Bool.eq_false_iff.mpr c33
      subst c33
      rw [if_neg ff_] at H
      have H' := a0_ H
      clear H
      go_wp2
      go_meet
      case rel => exact ⟨_, (false), rs_, H', ⟨by have := HJ2.out; have := HK2.out; first | omega | exact Nat.le_refl _⟩, ⟨bz_⟩, ⟨bz_⟩, ⟨bq1_⟩⟩
     case rest =>
      clear HC27
      try clear c1
      try clear c2
      try clear p2
      try clear c4
      try clear c9
      try clear c10
      try clear c12
      try clear c16
      try clear c20
      try clear c23
      try clear c24
      try clear z13_0 z13_1 z13_2 z13_3 z13_4 z13_5 z13_6 z13_7
      try clear z15_0 z15_1 z15_2 z15_3 z15_4 z15_5 z15_6 z15_7
      try clear z17_0 z17_1 z17_2 z17_3 z17_4 z17_5 z17_6 z17_7
      try clear z19_0 z19_1 z19_2 z19_3 z19_4 z19_5 z19_6 z19_7
      try clear z21_0 z21_1 z21_2 z21_3 z21_4 z21_5 z21_6 z21_7
      try clear z25_0 z25_1 z25_2 z25_3 z25_4 z25_5 z25_6 z25_7
      try clear z29_0 z29_1 z29_2 z29_3 z29_4 z29_5 z29_6 z29_7
      try clear q13_0 q13_1 q13_2 q13_3 q13_4 q13_5 q13_6 q13_7
      try clear q15_0 q15_1 q15_2 q15_3 q15_4 q15_5 q15_6 q15_7
      try clear q17_0 q17_1 q17_2 q17_3 q17_4 q17_5 q17_6 q17_7
      try clear q19_0 q19_1 q19_2 q19_3 q19_4 q19_5 q19_6 q19_7
      try clear q21_0 q21_1 q21_2 q21_3 q21_4 q21_5 q21_6 q21_7
      try clear q25_0 q25_1 q25_2 q25_3 q25_4 q25_5 q25_6 q25_7
      try clear q29_0 q29_1 q29_2 q29_3 q29_4 q29_5 q29_6 q29_7
      try clear p2
      obtain ⟨kq, x33_26, rfl, HA, HJ26, BK1066, BK1067, HB⟩ := hcut
      cases kq with
      | zero => exact absurd HA.out (by simp [impl_CutMessage.j2])
      | succ kj26 =>
       have H := HA.out
       clear HA
       simp only [impl_CutMessage.j2] at H
       by_cases c34 : x33_26 = true
       case pos =>
        subst c34
        rw [if_pos rfl] at H
        obtain ⟨⟨t1072, t1073, t1074, t1075, t1076, t1077, t1078, t1081⟩, A35, H⟩ := ob_ H
        simp only [Option.some.injEq, Prod.mk.injEq] at H
        obtain ⟨rfl, rfl, rfl, rfl, rfl, rfl, rfl, rfl, rfl⟩ := H
        have hnb36 := NB1066_1067.out
        have hnc36 := NB1067_1066.out
        obtain ⟨_, _, _, _, _, _, _, _, _, _, _, _, _, _, _, _⟩ := bk8_ BK1066.out
        go_wp2_with (first | ((with_reducible refine gt_ 107 rfl ?_); refine gs_ 35 Tryz.func107 #[.agg #[.int .i64 a0_0, .bool a0_1, .bool x1067002_2, .int .i64 a0_3, .string a0_4, .int .i64 a0_5, .slice A6 x1067006_2.length c6, .slice A7 x1067007_2.length c7]] ?_; (with_reducible refine (impl_ownMessage.calls a0_0 a0_1 x1067002_2 a0_3 a0_4 a0_5 _ _ x1067006_2 _ _ x1067007_2 t1072 t1073 t1074 t1075 t1076 t1077 t1078 t1081 _ ?side1 ?side2 ?side3 ?side4 A35.out).mono ?_); (case side1 => exact kC_ HR6.out HB.out); (case side2 => exact HC6.out); (case side3 => exact kC_ HR7.out HB.out); (case side4 => exact HC7.out); rintro e w38 ⟨v1079, v1082, rfl, ho0, ho1, hb⟩; refine ⟨_, rfl, ?_⟩; have HO1080 := a0_ (Kd.R_lower ho0 (below_size bq1_)); have HO1083 := a0_ (Kd.R_lower ho1 (below_size bq1_)); replace BK1066 := a0_ (bkB_ BK1066 hb); replace BK1067 := a0_ (bkB_ BK1067 hb); replace HB := a0_ (below_step bq1_ hb); clear hb; (try clear ho0); (try clear ho1); obtain ⟨_, _, _, _, _, _, _, _, _, _, _, _, _, _, _, _⟩ := bk8_ BK1067.out; obtain ⟨Ao40, co40, eo40⟩ := Kd.R_slice HO1080.out; subst eo40; obtain ⟨Ao41, co41, eo41⟩ := Kd.R_slice HO1083.out; subst eo41))
        refine bodyPost_ret (results_ct rfl _ _ gb1067 62 #[.int .i64 t1072, .bool t1073, .bool t1074, .int .i64 t1075, .string t1076, .int .i64 t1077, .slice Ao40 t1078.length co40, .slice Ao41 t1081.length co41] (0, 0) _ rfl (put8_ BK1067.out) Tryz.underlying62 rfl (by kernel_rfl)) rfl ?_
        exact ⟨_, _, rr_, kR_ (Kd.R_mono (Kd.R_far (p := ⟨gb1067, 7, none⟩) (Kd.R_far (p := ⟨gb1067, 6, none⟩) (Kd.R_far (p := ⟨gb1067, 5, none⟩) (Kd.R_far (p := ⟨gb1067, 4, none⟩) (rf4_ gb1067 (Kd.R_types HO1080.out BK1067.out (by decide)) (fun _ hk => hk.2) (.int .i64 t1072) (.bool t1073) (.bool t1074) (.int .i64 t1075)) (fun _ hk => hk.2) (.string t1076)) (fun _ hk => hk.2) (.int .i64 t1077)) (fun _ hk => hk.2) (.slice Ao40 t1078.length co40)) (fun _ hk => hk.2) (.slice Ao41 t1081.length co41)) (fun _ hk => hk.1)), kR_ (Kd.R_mono (Kd.R_far (p := ⟨gb1067, 7, none⟩) (Kd.R_far (p := ⟨gb1067, 6, none⟩) (Kd.R_far (p := ⟨gb1067, 5, none⟩) (Kd.R_far (p := ⟨gb1067, 4, none⟩) (rf4_ gb1067 (Kd.R_types HO1083.out BK1067.out (by decide)) (fun _ hk => hk.2) (.int .i64 t1072) (.bool t1073) (.bool t1074) (.int .i64 t1075)) (fun _ hk => hk.2) (.string t1076)) (fun _ hk => hk.2) (.int .i64 t1077)) (fun _ hk => hk.2) (.slice Ao40 t1078.length co40)) (fun _ hk => hk.2) (.slice Ao41 t1081.length co41)) (fun _ hk => hk.1)), bq1_⟩
       replace c34 := Bool.eq_false_iff.mpr c34
       subst c34
       rw [if_neg ff_] at H
       by_cases c42 : (x1067007_2.length : Int) > 0
       case pos =>
        rw [if_pos c42] at H
        have c42b0 := decide_eq_true c42
        have c42b1 : decide (0 < x1067007_2.length) = true := decide_eq_true (by omega)
        clear c42
        obtain ⟨t1084, A43, H⟩ := ob_ H
        have H' := a0_ H
        clear H
        have hnb44 := NB1066_1067.out
        have hnc44 := NB1067_1066.out
        obtain ⟨_, _, _, _, _, _, _, _, _, _, _, _, _, _, _, _⟩ := bk8_ BK1066.out
        go_wp2_with (first | (go_at_call 108; (refine (impl_withoutLast.view kj26 A7 c7 x1067007_2 t1084 _ ?side1 HC7.out A43.out).mono ?_); (case side1 => exact kC_ HR7.out HB.out); rintro e w46 ⟨n_, rfl, hn_, hr_, hb⟩; obtain rfl : n_ = t1084.length := (by rw [hr_, List.length_take]; omega); have HT_ := a0_ (show Kd.C k45 w A7 t1084.length t1084 from hr_ ▸ Kd.C_take HR7.out hn_); have HT2_ := a0_ (Nat.le_trans hn_ HC7.out); replace BK1066 := a0_ (bkB_ BK1066 hb); replace BK1067 := a0_ (bkB_ BK1067 hb); replace HB := a0_ (below_step bq1_ hb); clear hb hn_ hr_; obtain ⟨_, _, _, _, _, _, _, _, _, _, _, _, _, _, _, _⟩ := bk8_ BK1066.out))
        go_roundg kj26
        case measure => have := HJ2.out; have := HK2.out; have := HJ26.out; omega
        case rel => exact ⟨(true), (x1067006_2), (t1084), (x1068000_2), (x1068001_2), (x1068002_2), (x1068003_2), (x1068004_2), (x1068005_2), H', jn_ HJ2 HK2 HJ26, HR6, HC6, HT_, HT2_, ⟨by (with_reducible repeat (first | refine blk_drewN ?_ _ | refine blk_drew ?_ | refine blk_alloc ?_ _)); refine blk_put (cs := #[.int .i64 a0_0, .bool a0_1, .bool x1067002_2, .int .i64 a0_3, .string a0_4, .int .i64 a0_5, .slice A6 x1067006_2.length c6, .slice A7 t1084.length c7]) ?_ 2 _ rfl; (with_reducible repeat (first | refine blk_drewN ?_ _ | refine blk_drew ?_ | refine blk_alloc ?_ _)); refine blk_put (cs := #[.int .i64 a0_0, .bool a0_1, .bool x1067002_2, .int .i64 a0_3, .string a0_4, .int .i64 a0_5, .slice A6 x1067006_2.length c6, .slice A7 x1067007_2.length c7]) ?_ 7 _ rfl; (with_reducible repeat (first | refine blk_drewN ?_ _ | refine blk_drew ?_ | refine blk_alloc ?_ _)); exact BK1066.out⟩, ⟨bfar2_ NB1067_1066.out BK1067.out⟩, ⟨bq1_⟩⟩
       rw [if_neg c42] at H
       have c42b0 := decide_eq_false c42
       have c42b1 : decide (0 < x1067007_2.length) = false := decide_eq_false (by omega)
       clear c42
       by_cases c49 : (x1067006_2.length : Int) > 0
       case pos =>
        rw [if_pos c49] at H
        have c49b0 := decide_eq_true c49
        have c49b1 : decide (0 < x1067006_2.length) = true := decide_eq_true (by omega)
        clear c49
        obtain ⟨t1087, A50, H⟩ := ob_ H
        have H' := a0_ H
        clear H
        have hnb51 := NB1066_1067.out
        have hnc51 := NB1067_1066.out
        obtain ⟨_, _, _, _, _, _, _, _, _, _, _, _, _, _, _, _⟩ := bk8_ BK1066.out
        go_wp2_with (first | (go_at_call 108; (refine (impl_withoutLast.view kj26 A6 c6 x1067006_2 t1087 _ ?side1 HC6.out A50.out).mono ?_); (case side1 => exact kC_ HR6.out HB.out); rintro e w53 ⟨n_, rfl, hn_, hr_, hb⟩; obtain rfl : n_ = t1087.length := (by rw [hr_, List.length_take]; omega); have HT_ := a0_ (show Kd.C k45 w A6 t1087.length t1087 from hr_ ▸ Kd.C_take HR6.out hn_); have HT2_ := a0_ (Nat.le_trans hn_ HC6.out); replace BK1066 := a0_ (bkB_ BK1066 hb); replace BK1067 := a0_ (bkB_ BK1067 hb); replace HB := a0_ (below_step bq1_ hb); clear hb hn_ hr_; obtain ⟨_, _, _, _, _, _, _, _, _, _, _, _, _, _, _, _⟩ := bk8_ BK1066.out))
        go_roundg kj26
        case measure => have := HJ2.out; have := HK2.out; have := HJ26.out; omega
        case rel => exact ⟨(true), (t1087), (x1067007_2), (x1068000_2), (x1068001_2), (x1068002_2), (x1068003_2), (x1068004_2), (x1068005_2), H', jn_ HJ2 HK2 HJ26, HT_, HT2_, HR7, HC7, ⟨by (with_reducible repeat (first | refine blk_drewN ?_ _ | refine blk_drew ?_ | refine blk_alloc ?_ _)); refine blk_put (cs := #[.int .i64 a0_0, .bool a0_1, .bool x1067002_2, .int .i64 a0_3, .string a0_4, .int .i64 a0_5, .slice A6 t1087.length c6, .slice A7 x1067007_2.length c7]) ?_ 2 _ rfl; (with_reducible repeat (first | refine blk_drewN ?_ _ | refine blk_drew ?_ | refine blk_alloc ?_ _)); refine blk_put (cs := #[.int .i64 a0_0, .bool a0_1, .bool x1067002_2, .int .i64 a0_3, .string a0_4, .int .i64 a0_5, .slice A6 x1067006_2.length c6, .slice A7 x1067007_2.length c7]) ?_ 6 _ rfl; (with_reducible repeat (first | refine blk_drewN ?_ _ | refine blk_drew ?_ | refine blk_alloc ?_ _)); exact BK1066.out⟩, ⟨bfar2_ NB1067_1066.out BK1067.out⟩, ⟨bq1_⟩⟩
       rw [if_neg c49] at H
       have c49b0 := decide_eq_false c49
       have c49b1 : decide (0 < x1067006_2.length) = false := decide_eq_false (by omega)
       clear c49
       simp only [Option.some.injEq, Prod.mk.injEq] at H
       obtain ⟨rfl, rfl, rfl, rfl, rfl, rfl, rfl, rfl, rfl⟩ := H
       have hnb56 := NB1066_1067.out
       have hnc56 := NB1067_1066.out
       obtain ⟨_, _, _, _, _, _, _, _, _, _, _, _, _, _, _, _⟩ := bk8_ BK1066.out
       obtain ⟨_, _, _, _, _, _, _, _, _, _, _, _, _, _, _, _⟩ := bk8_ BK1067.out
       go_wp2
       refine bodyPost_ret (results_ct rfl _ _ gb1067 62 #[.int .i64 0, .bool false, .bool false, .int .i64 0, .string (⟨#[]⟩ : ByteArray), .int .i64 0, .slice none 0 0, .slice none 0 0] (0, 0) _ rfl (put8_ BK1067.out) Tryz.underlying62 rfl (by kernel_rfl)) rfl ?_
       exact ⟨_, _, rr_, by first | exact Kd.R_nil _ _ _ _ _ | exact Kd.N_nil _ _ _ _ _ | exact Kd.V_nil _ _ _ _ _ | exact Kd.Q_nil _ _ _ _ _ | exact Kd.S_nil _ _ _ _ _, by first | exact Kd.R_nil _ _ _ _ _ | exact Kd.N_nil _ _ _ _ _ | exact Kd.V_nil _ _ _ _ _ | exact Kd.Q_nil _ _ _ _ _ | exact Kd.S_nil _ _ _ _ _, bq1_⟩
end Go.Proofs.YtiegkjimpclmaaaGreatDoor.P
namespace Go.Proofs.YtiegkjimpclmaaaGreatDoor.Pure
open Go.Proofs.YtiegkjimpclmaaaGreatDoor.P
theorem big3 (n : Int) : Ev (fun k => impl_big.f k n 3) (strOfNums [n / 65536 % 256, n / 256 % 256, n % 256]) := by
 refine Ev.of (fun k => impl_big.mono _ _ _) (k := 4) ?_
 show impl_big.f 4 n 3 = _
 simp [impl_big.f, impl_big.l0, wrap64, shr, IntKind.bits]
theorem num3 (n : Int) : Ev (fun k => spec_l3Number.f k n 3) (strOfNums [n / 65536 % 256, n / 256 % 256, n % 256]) := by
 refine Ev.of (fun k => spec_l3Number.mono _ _ _) (k := 4) ?_
 show spec_l3Number.f 4 n 3 = _
 simp [spec_l3Number.f, spec_l3Number.l0, wrap64, Int.ediv_ediv_of_nonneg]
theorem bg_size {n c : Int} {k : Nat} {t : ByteArray} (h : impl_big.f k n c = some t) : (c = 1 ∨ c = 2 ∨ c = 4) → t.size ≤ 4 ∧ (c = 1 → t.size = 1) := by
 have e : Ev (fun k => impl_big.f k n c) t := Ev.of (fun k => impl_big.mono _ _ _) h
 rintro (rfl | rfl | rfl)
 · rw [Ev.unique e (big1 n), strOfNums_size]; exact ⟨by simp, fun _ => rfl⟩
 · rw [Ev.unique e (big2 n), strOfNums_size]; exact ⟨by simp, fun h => absurd h (by decide)⟩
 · rw [Ev.unique e (big4 n), strOfNums_size]; exact ⟨by simp, fun h => absurd h (by decide)⟩
theorem l0_out : ∀ (k : Nat) (parts : List ByteArray) (out : ByteArray) (i : Nat) (r : ByteArray × Bool), impl_DataBytes.l0 k parts out (i : Int) = some r → r.2 = true → i ≤ parts.length → parts.length < 1099511627776 → r.1.size ≤ out.size + (parts.length - i)
 | 0, parts, out, i, r, h, h2, hi, hl => by simp [impl_DataBytes.l0] at h
 | k + 1, parts, out, i, r, h, h2, hi, hl => by
  unfold impl_DataBytes.l0 at h
  by_cases c : (i : Int) < (parts.length : Int)
  · rw [if_pos c, if_pos (by omega)] at h
    obtain ⟨b, hb, h⟩ := Option.bind_eq_some_iff.mp h
    by_cases c2 : b.2 = true
    · rw [if_pos c2] at h
      by_cases c4 : (parts.length : Int) = 4
      · rw [if_pos c4] at h
        obtain ⟨t, ht, h⟩ := Option.bind_eq_some_iff.mp h
        have hz := (bg_size ht (.inl rfl)).2 rfl
        by_cases c5 : out.size + t.size ≤ 9223372036854775807
        · rw [if_pos c5, w64n (by omega)] at h
          have := l0_out k parts (out ++ t) (i + 1) r h h2 (by omega) hl
          rw [ByteArray.size_append] at this
          omega
        · rw [if_neg c5] at h; cases h
      · rw [if_neg c4] at h
        obtain rfl := Option.some.inj h
        cases h2
    · rw [if_neg c2] at h
      obtain rfl := Option.some.inj h
      cases h2
  · rw [if_neg c] at h
    obtain rfl := Option.some.inj h
    show out.size ≤ _
    omega
theorem lab_out {k : Nat} {s lb : ByteArray} (ht : impl_isTarget.f s = some true) (h : impl_labelBytes.f k s = some lb) : lb.size ≤ 100 := by
 have e : Ev (fun k => impl_labelBytes.f k s) lb := Ev.of (fun k => impl_labelBytes.mono _ _) h
 have hg := targ_good (Option.some.inj ((target_impl s).symm.trans ht))
 obtain ⟨r, g1, _, g3⟩ := nb_both s hg
 have hz := good_size hg
 rw [← size_len] at hz
 rw [Ev.unique e g1, g3]
 split <;> omega
theorem data_out {k : Nat} {kind : Int} {s x : ByteArray} (hs : s.size ≤ 1048576) (h : impl_DataBytes.f k kind s = some (x, true)) : x.size ≤ 1100000 := by
 unfold impl_DataBytes.f at h
 by_cases c1 : kind = 1
 · rw [if_pos c1] at h
   have hsp : strings_Split.f s (⟨#[46]⟩ : ByteArray) = some ((splitL 46 s.data.toList).map mkB) := by
    unfold strings_Split.f
    rw [if_pos (show (⟨#[46]⟩ : ByteArray).size = 1 from rfl), if_pos (by omega)]
    rfl
   rw [hsp, Option.bind_some] at h
   have hlen : (splitL 46 s.data.toList).length ≤ s.size + 1 := by rw [size_len]; exact splitL_len _ _
   have := l0_out k _ _ 0 _ h rfl (Nat.zero_le _) (by rw [List.length_map]; omega)
   rw [List.length_map] at this
   have h0 : (⟨#[]⟩ : ByteArray).size = 0 := rfl
   dsimp only at this
   omega
 · rw [if_neg c1] at h
   by_cases c2 : kind = 2 ∨ kind = 5
   · rw [if_pos c2] at h
     unfold dataNs at h
     obtain ⟨t, ht, h⟩ := Option.bind_eq_some_iff.mp h
     cases t with
     | false => cases (Prod.mk.inj (Option.some.inj h)).2
     | true =>
      rw [if_pos rfl] at h
      obtain ⟨lb, hlb, h⟩ := Option.bind_eq_some_iff.mp h
      have := lab_out ht hlb
      rw [if_pos (by omega)] at h
      obtain rfl := (Prod.mk.inj (Option.some.inj h)).1
      rw [ByteArray.size_append]
      show _ + 1 ≤ _
      omega
   · rw [if_neg c2] at h
     by_cases c6 : kind = 6
     · rw [if_pos c6] at h
       unfold dataSoa at h
       obtain ⟨b, hb, h⟩ := Option.bind_eq_some_iff.mp h
       by_cases hb2 : b.2 = true
       · rw [if_pos hb2] at h
         obtain ⟨t, ht, h⟩ := Option.bind_eq_some_iff.mp h
         obtain rfl := (Prod.mk.inj (Option.some.inj h)).1
         have := (bg_size ht (.inr (.inr rfl))).1
         omega
       · rw [if_neg hb2] at h
         cases (Prod.mk.inj (Option.some.inj h)).2
     · rw [if_neg c6] at h
       by_cases c15 : kind = 15
       · rw [if_pos c15] at h
         unfold dataMx at h
         obtain ⟨q, hc, h⟩ := Option.bind_eq_some_iff.mp h
         obtain ⟨b, hb, h⟩ := Option.bind_eq_some_iff.mp h
         by_cases hb2 : b.2 = true
         · rw [if_pos hb2] at h
           obtain ⟨t, ht, h⟩ := Option.bind_eq_some_iff.mp h
           cases t with
           | false => cases (Prod.mk.inj (Option.some.inj h)).2
           | true =>
            rw [if_pos rfl] at h
            obtain ⟨g, hg, h⟩ := Option.bind_eq_some_iff.mp h
            obtain ⟨lb, hlb, h⟩ := Option.bind_eq_some_iff.mp h
            have h1 := lab_out ht hlb
            have h2 := (bg_size hg (.inr (.inl rfl))).1
            rw [if_pos (by omega), if_pos (by omega)] at h
            obtain rfl := (Prod.mk.inj (Option.some.inj h)).1
            rw [ByteArray.size_append, ByteArray.size_append]
            show _ + 1 ≤ _
            omega
         · rw [if_neg hb2] at h
           cases (Prod.mk.inj (Option.some.inj h)).2
       · rw [if_neg c15] at h
         by_cases c16 : kind = 16
         · rw [if_pos c16] at h
           unfold dataTxt at h
           by_cases h30 : (s.size : Int) > 30
           · rw [if_pos h30] at h
             cases (Prod.mk.inj (Option.some.inj h)).2
           · rw [if_neg h30] at h
             split at h
             · cases (Prod.mk.inj (Option.some.inj h)).2
             · obtain ⟨t, ht, h⟩ := Option.bind_eq_some_iff.mp h
               have h2 := (bg_size ht (.inl rfl)).1
               rw [if_pos (by omega)] at h
               obtain rfl := (Prod.mk.inj (Option.some.inj h)).1
               rw [ByteArray.size_append]
               omega
         · rw [if_neg c16] at h
           cases (Prod.mk.inj (Option.some.inj h)).2
def GdR (r : IRec) : Prop := (Small r.f0 ∧ Small r.f3) ∧ Ev (fun k => impl_GoodRecord.f k r.f0 r.f1 r.f2 r.f3) true
theorem gd_data {r : IRec} (h : GdR r) : ∃ x : ByteArray, x.size ≤ 1100000 ∧ Ev (fun k => spec_l3Bytes.f k r.f1 r.f3) (x, true) ∧ Ev (fun k => impl_dataBytes.f k r.f1 r.f3) x := by
 obtain ⟨x, x1, x2⟩ := good_bytes r.f1 r.f3 r.f0 r.f2 h.1.1 h.1.2 h.2
 obtain ⟨K, hK⟩ := id x2
 exact ⟨x, data_out h.1.2 (hK K (Nat.le_refl _)), x1, Ev.congr (fun k => rfl) (Ev.bind x2 (Ev.now _))⟩
theorem mb_w {n : Nat} (h : n < 4611686018427387904) : wrap64 ((n : Int) + 1) = ((n + 1 : Nat) : Int) := by unfold wrap64; omega
theorem loops_both (L : List IRec) (hL : L.length ≤ 30) (hg : ∀ r ∈ L, GdR r) (T0 : ByteArray) (hT : T0.size ≤ 10) (id : Int) (re cu : Bool) (co : Int) (nm : ByteArray) (ty x3 : Int) (l6 l7 : List IRec) : ∀ (m i : Nat) (ns : List ByteArray) (u : ByteArray), i + m = L.length → ns.length ≤ i + 1 → u.size ≤ 1200000 * i →
 ∃ e : ByteArray, (u ++ e).size ≤ 36000000 ∧
  (∀ R, Ev (fun k => spec_l4Bytes.l0 k x3 (ns ++ (L.drop i).map fun r => r.f0) (T0 ++ (u ++ e)) L (L.length : Int) (L.length : Int) id re cu co nm ty l6 l7) R → Ev (fun k => spec_l4Bytes.l0 k x3 ns (T0 ++ u) L (L.length : Int) (i : Int) id re cu co nm ty l6 l7) R) ∧
  (∀ R, Ev (fun k => impl_messageBytes.l0 k (ns ++ (L.drop i).map fun r => r.f0) (u ++ e) L (L.length : Int) (L.length : Int) id re cu co nm ty l6 l7) R → Ev (fun k => impl_messageBytes.l0 k ns u L (L.length : Int) (i : Int) id re cu co nm ty l6 l7) R)
 | 0, i, ns, u, hi, hn, hu => by
  have hi : i = L.length := by omega
  refine ⟨ByteArray.empty, ?_, ?_, ?_⟩
  · rw [ByteArray.append_empty]; omega
  · rw [List.drop_of_length_le (by omega), List.map_nil, List.append_nil, ByteArray.append_empty, hi]
    exact fun R h => h
  · rw [List.drop_of_length_le (by omega), List.map_nil, List.append_nil, ByteArray.append_empty, hi]
    exact fun R h => h
 | m + 1, i, ns, u, hi, hn, hu => by
  have hlt : i < L.length := by omega
  obtain ⟨x, hx, x1, x2⟩ := gd_data (hg _ (List.getElem_mem hlt))
  have s1 : ∀ v : Int, (strOfNums [v]).size = 1 := fun v => by rw [strOfNums_size]; rfl
  have s3 : ∀ a b c : Int, (strOfNums [a, b, c]).size = 3 := fun a b c => by rw [strOfNums_size]; rfl
  let c : ByteArray := ((strOfNums [L[i].f1 % 256] ++ strOfNums [L[i].f2 / 65536 % 256, L[i].f2 / 256 % 256, L[i].f2 % 256]) ++ strOfNums [(x.size : Int) % 256]) ++ x
  have hc : c.size = 5 + x.size := by
   show (((strOfNums _ ++ strOfNums _) ++ strOfNums _) ++ x).size = _
   rw [ByteArray.size_append, ByteArray.size_append, ByteArray.size_append, s1, s3, s1]
  obtain ⟨e, e1, e2, e3⟩ := loops_both L hL hg T0 hT id re cu co nm ty x3 l6 l7 m (i + 1) (ns ++ [L[i].f0]) (u ++ c) (by omega) (by rw [List.length_append]; simp; omega) (by rw [ByteArray.size_append]; omega)
  have ed : (ns ++ [L[i].f0]) ++ (L.drop (i + 1)).map (fun r => r.f0) = ns ++ (L.drop i).map fun r => r.f0 := by
   rw [List.drop_eq_getElem_cons hlt, List.map_cons, List.append_assoc]
   rfl
  rw [ed, ByteArray.append_assoc] at e2 e3
  rw [ByteArray.append_assoc] at e1
  refine ⟨c ++ e, e1, fun R hR => ?_, fun R hR => ?_⟩
  · have h := e2 R hR
    rw [← ByteArray.append_assoc] at h
    refine Ev.step (fun k => by rw [spec_l4Bytes.l0, if_pos (by omega), if_pos (by omega), if_pos (by omega), if_pos (by omega), rdI L i hlt]) ?_
    refine Ev.bind x1 (Ev.bind (num1 _) (Ev.bind (num3 _) ?_))
    simp only [if_pos (show (strOfNums [L[i].f1 % 256]).size + (strOfNums [L[i].f2 / 65536 % 256, L[i].f2 / 256 % 256, L[i].f2 % 256]).size ≤ 9223372036854775807 by rw [s1, s3]; omega)]
    refine Ev.bind (num1 _) ?_
    simp only [ByteArray.size_append, s1, s3]
    simp only [if_pos (show 1 + 3 + 1 ≤ 9223372036854775807 by omega), if_pos (show 1 + 3 + 1 + x.size ≤ 9223372036854775807 by omega), if_pos (show T0.size + u.size + (1 + 3 + 1 + x.size) ≤ 9223372036854775807 by omega), mb_w (show i < 4611686018427387904 by omega)]
    exact h
  · have h := e3 R hR
    refine Ev.step (fun k => by rw [impl_messageBytes.l0, if_pos (by omega), if_pos (by omega), if_pos (by omega), if_pos (by omega), rdI L i hlt]) ?_
    refine Ev.bind x2 (Ev.bind (big1 _) (Ev.bind (big3 _) ?_))
    simp only [if_pos (show (strOfNums [L[i].f1 % 256]).size + (strOfNums [L[i].f2 / 65536 % 256, L[i].f2 / 256 % 256, L[i].f2 % 256]).size ≤ 9223372036854775807 by rw [s1, s3]; omega)]
    refine Ev.bind (big1 _) ?_
    simp only [ByteArray.size_append, s1, s3]
    simp only [if_pos (show 1 + 3 + 1 ≤ 9223372036854775807 by omega), if_pos (show 1 + 3 + 1 + x.size ≤ 9223372036854775807 by omega), if_pos (show u.size + (1 + 3 + 1 + x.size) ≤ 9223372036854775807 by omega), mb_w (show i < 4611686018427387904 by omega)]
    exact h
def flagsOf (re cu : Bool) : Int := if re = true then (if cu = true then 129 else 128) else (if cu = true then 1 else 0)
theorem specFlags (id : Int) (re cu : Bool) (co : Int) (nm : ByteArray) (ty : Int) (l6 l7 : List IRec) {R : ByteArray} (h : Ev (fun k => spec_l4Bytes.j1 k (flagsOf re cu) id re cu co nm ty l6 l7) R) : Ev (fun k => spec_l4Bytes.f k id re cu co nm ty l6 l7) R := by
 have e1 : Go.bits .or .i64 0 128 = 128 := by decide
 have e2 : Go.bits .or .i64 128 1 = 129 := by decide
 have e3 : Go.bits .or .i64 0 1 = 1 := by decide
 have hj : ∀ x : Int, Ev (fun k => spec_l4Bytes.j1 k (if cu = true then Go.bits .or .i64 x 1 else x) id re cu co nm ty l6 l7) R → Ev (fun k => spec_l4Bytes.j0 k x id re cu co nm ty l6 l7) R := fun x hx => by
  refine Ev.step (fun k => ?_) hx
  rw [spec_l4Bytes.j0]
  cases cu <;> rfl
 unfold spec_l4Bytes.f flagsOf at *
 cases re with
 | true =>
  simp only [if_true] at h ⊢
  rw [e1]
  refine hj _ ?_
  rw [e2]
  exact h
 | false =>
  simp only [Bool.false_eq_true, if_false] at h ⊢
  refine hj _ ?_
  rw [e3]
  exact h
theorem implFlags (x6 x10 : ByteArray) (id : Int) (re cu : Bool) (co : Int) (nm : ByteArray) (ty : Int) (l6 l7 : List IRec) {R : ByteArray × Bool} (h : Ev (fun k => impl_messageBytes.j2 k x6 x10 (flagsOf re cu) id re cu co nm ty l6 l7) R) : Ev (fun k => if re = true then (impl_messageBytes.j1 k x6 x10 128 id re cu co nm ty l6 l7) else (impl_messageBytes.j1 k x6 x10 0 id re cu co nm ty l6 l7)) R := by
 have e2 : wrap64 (128 + 1) = 129 := by unfold wrap64; omega
 have e3 : wrap64 (0 + 1) = 1 := by unfold wrap64; omega
 have hj : ∀ x : Int, Ev (fun k => impl_messageBytes.j2 k x6 x10 (if cu = true then wrap64 (x + 1) else x) id re cu co nm ty l6 l7) R → Ev (fun k => impl_messageBytes.j1 k x6 x10 x id re cu co nm ty l6 l7) R := fun x hx => by
  refine Ev.step (fun k => ?_) hx
  rw [impl_messageBytes.j1]
  cases cu <;> rfl
 unfold flagsOf at h
 cases re with
 | true =>
  simp only [if_true] at h ⊢
  refine hj _ ?_
  rw [e2]
  exact h
 | false =>
  simp only [Bool.false_eq_true, if_false] at h ⊢
  refine hj _ ?_
  rw [e3]
  exact h
theorem bytes_both (id : Int) (re cu : Bool) (co : Int) (nm : ByteArray) (ty : Int) (l6 l7 : List IRec) (hn : goodL nm.data.toList = true) (h6 : l6.length ≤ 12) (h7 : l7.length ≤ 12) (g6 : ∀ r ∈ l6, GdR r) (g7 : ∀ r ∈ l7, GdR r) :
 ∃ (B b : ByteArray) (ok : Bool), Ev (fun k => spec_l4Bytes.f k id re cu co nm ty l6 l7) B ∧ Ev (fun k => impl_messageBytes.f k id re cu co nm ty l6 l7) (b, ok) ∧ (ok = true → b = B) ∧ (ok = false → 600 < B.size) := by
 have hL : (l6 ++ l7).length ≤ 24 := by rw [List.length_append]; omega
 have hg : ∀ r ∈ l6 ++ l7, GdR r := fun r hr => (List.mem_append.1 hr).elim (g6 r) (g7 r)
 have s1 : ∀ v : Int, (strOfNums [v]).size = 1 := fun v => by rw [strOfNums_size]; rfl
 have s2 : ∀ a b : Int, (strOfNums [a, b]).size = 2 := fun a b => by rw [strOfNums_size]; rfl
 obtain ⟨e, e1, e2, e3⟩ := loops_both (l6 ++ l7) (by omega) hg (strOfNums [ty % 256]) (by rw [s1]; omega) id re cu co nm ty (flagsOf re cu) l6 l7 (l6 ++ l7).length 0 [nm] ByteArray.empty (by omega) (by simp) (Nat.zero_le _)
 rw [List.drop_zero] at e2 e3
 have ee : ByteArray.empty ++ e = e := ByteArray.empty_append
 rw [ee] at e1 e2 e3
 obtain ⟨r, r1, r2, r3⟩ := names_both ([nm] ++ (l6 ++ l7).map fun r => r.f0) (by rw [List.length_append, List.length_map]; simp only [List.length_singleton]; omega) (fun x hx => by
  rcases List.mem_append.1 hx with hx | hx
  · rw [List.mem_singleton.1 hx]; exact hn
  · obtain ⟨q, hq, rfl⟩ := List.mem_map.1 hx
    have hG := hg q hq
    exact (good_parts q.f0 q.f1 q.f2 q.f3 hG.1.1 hG.1.2 hG.2).2.1)
 let H : ByteArray := strOfNums [id / 256 % 256, id % 256] ++ strOfNums [flagsOf re cu % 256] ++ strOfNums [co % 256] ++ strOfNums [(l6.length : Int) % 256] ++ strOfNums [(l7.length : Int) % 256] ++ strOfNums [(r.size : Int) / 256 % 256, (r.size : Int) % 256]
 have hS : Ev (fun k => spec_l4Bytes.f k id re cu co nm ty l6 l7) ((H ++ r) ++ (strOfNums [ty % 256] ++ e)) := by
  refine specFlags id re cu co nm ty l6 l7 ?_
  refine Ev.step (fun k => by rw [spec_l4Bytes.j1, Option.bind_some, if_pos (by simp; omega), Option.bind_some, if_pos (by simp; omega), Option.bind_some, List.nil_append]) ?_
  refine Ev.bind (num1 _) ?_
  have := e2 ((H ++ r) ++ (strOfNums [ty % 256] ++ e)) ?_
  · rw [ByteArray.append_empty] at this
    exact this
  · refine Ev.step (fun k => by rw [spec_l4Bytes.l0, if_neg (by omega)]) ?_
    refine Ev.bind r1 (Ev.bind (num2 _) (Ev.bind (num1 _) ?_))
    simp only [ByteArray.size_append, s1, s2]
    simp only [if_pos (show 2 + 1 ≤ 9223372036854775807 by omega)]
    refine Ev.bind (num1 _) ?_
    simp only [s1, if_pos (show 2 + 1 + 1 ≤ 9223372036854775807 by omega)]
    refine Ev.bind (num1 _) ?_
    simp only [s1, if_pos (show 2 + 1 + 1 + 1 ≤ 9223372036854775807 by omega)]
    refine Ev.bind (num1 _) ?_
    simp only [s1, if_pos (show 2 + 1 + 1 + 1 + 1 ≤ 9223372036854775807 by omega)]
    refine Ev.bind (num2 _) ?_
    simp only [s2, if_pos (show 2 + 1 + 1 + 1 + 1 + 2 ≤ 9223372036854775807 by omega), if_pos (show 2 + 1 + 1 + 1 + 1 + 2 + r.size ≤ 9223372036854775807 by omega), if_pos (show 2 + 1 + 1 + 1 + 1 + 2 + r.size + (1 + e.size) ≤ 9223372036854775807 by omega)]
    exact Ev.now _
 have hc : ∀ k, impl_messageBytes.f k id re cu co nm ty l6 l7 = impl_messageBytes.l0 k [nm] ByteArray.empty (l6 ++ l7) ((l6 ++ l7).length : Int) 0 id re cu co nm ty l6 l7 := fun k => by
  unfold impl_messageBytes.f slices_Concat_rec.f
  first | rfl | (rw [if_pos (by omega)]; rfl)
 by_cases hr : r.size ≤ 600
 · rw [if_pos hr] at r3
   refine ⟨_, ((H ++ r) ++ strOfNums [ty % 256]) ++ e, true, hS, Ev.congr hc (e3 _ ?_), fun _ => ?_, fun h => by cases h⟩
   · refine Ev.step (fun k => by rw [impl_messageBytes.l0, if_neg (by omega)]) ?_
     refine Ev.bind r3 ?_
     simp only [if_true]
     refine implFlags e r id re cu co nm ty l6 l7 ?_
     refine Ev.step (fun k => by rw [impl_messageBytes.j2]) ?_
     refine Ev.bind (big2 _) (Ev.bind (big1 _) ?_)
     simp only [ByteArray.size_append, s1, s2]
     simp only [if_pos (show 2 + 1 ≤ 9223372036854775807 by omega)]
     refine Ev.bind (big1 _) ?_
     simp only [s1, if_pos (show 2 + 1 + 1 ≤ 9223372036854775807 by omega)]
     refine Ev.bind (big1 _) ?_
     simp only [s1, if_pos (show 2 + 1 + 1 + 1 ≤ 9223372036854775807 by omega)]
     refine Ev.bind (big1 _) ?_
     simp only [s1, if_pos (show 2 + 1 + 1 + 1 + 1 ≤ 9223372036854775807 by omega)]
     refine Ev.bind (big2 _) ?_
     simp only [s2, if_pos (show 2 + 1 + 1 + 1 + 1 + 2 ≤ 9223372036854775807 by omega), if_pos (show 2 + 1 + 1 + 1 + 1 + 2 + r.size ≤ 9223372036854775807 by omega)]
     refine Ev.bind (big1 _) ?_
     simp only [s1, if_pos (show 2 + 1 + 1 + 1 + 1 + 2 + r.size + 1 ≤ 9223372036854775807 by omega), if_pos (show 2 + 1 + 1 + 1 + 1 + 2 + r.size + 1 + e.size ≤ 9223372036854775807 by omega)]
     exact Ev.now _
   · rw [← ByteArray.append_assoc]
 · rw [if_neg hr] at r3
   refine ⟨_, (⟨#[]⟩ : ByteArray), false, hS, Ev.congr hc (e3 _ ?_), (fun h => by cases h), fun _ => ?_⟩
   · refine Ev.step (fun k => by rw [impl_messageBytes.l0, if_neg (by omega)]) ?_
     refine Ev.bind r3 ?_
     simp only [Bool.false_eq_true, if_false]
     exact Ev.now _
   · rw [ByteArray.size_append, ByteArray.size_append]
     omega
end Go.Proofs.YtiegkjimpclmaaaGreatDoor.Pure
namespace Go.Proofs.YtiegkjimpclmaaaGreatDoor.P
abbrev MRec := S45
abbrev LRec := S91
abbrev MR1 (w W : World) (ok : Nat → Prop) (v : Value) (l : List MRec) : Prop := Kd.R k45 45 W w.heap.size ok v l
structure MV where
 (u v : Value)
 (lo hi : Nat)
 (x y : List MRec)
structure Al (w W : World) (bs : List (Nat × Array Value × TypeId)) (ms : List MV) : Prop where
 b : Below w.heap.size w W
 k : ∀ p ∈ bs, W.heap[p.1]? = some (.cells p.2.1 p.2.2 (0, 0))
 t : ∀ p ∈ bs, 45 ≠ p.2.2 ∧ w.heap.size ≤ p.1
 r : ∀ q ∈ ms, MR1 w W (fun k => (q.lo ≤ k ∧ k < q.hi) ∧ some k ≠ q.v.ownBlock) q.u q.x ∧ MR1 w W (fun k => (q.lo ≤ k ∧ k < q.hi) ∧ some k ≠ q.u.ownBlock) q.v q.y
 h : ∀ q ∈ ms, q.hi ≤ W.heap.size
 p : ms.Pairwise fun a b => b.hi ≤ a.lo
section
variable {w W W' : World} {bs : List (Nat × Array Value × TypeId)} {ms A B : List MV} {g lo hi c6 c7 d6 d7 k : Nat} {A6 A7 D6 D7 : Option Addr} {x y x' y' : List MRec}
theorem Al.new (w : World) : Al w w [] [] := ⟨Below.refl _ _, (fun _ h => nomatch h), (fun _ h => nomatch h), (fun _ h => nomatch h), (fun _ h => nomatch h), List.Pairwise.nil⟩
theorem Al.below (a : Al w W bs ms) (hb : Below W.heap.size W W') : Al w W' bs ms :=
 ⟨below_step a.b hb, fun p hp => blk_below (a.k p hp) hb, a.t, fun q hq => ⟨Kd.R_below (a.r q hq).1 hb, Kd.R_below (a.r q hq).2 hb⟩, fun q hq => Nat.le_trans (a.h q hq) hb.size, a.p⟩
theorem Al.drew (a : Al w W bs ms) : Al w W.drew bs ms := a.below (below_drew (Below.refl _ _))
theorem Al.box {cs : Array Value} {t : TypeId} (a : Al w W bs ms) (hg : g = W.heap.size) (hbox : W'.heap[g]? = some (.cells cs t (0, 0))) (hb : Below W.heap.size W W') (ht : 45 ≠ t) : Al w W' ((g, cs, t) :: bs) ms := by
 have a' := a.below hb
 refine ⟨a'.b, fun p hp => ?_, fun p hp => ?_, a'.r, a'.h, a'.p⟩
 · rcases List.mem_cons.1 hp with rfl | hp
   · exact hbox
   · exact a'.k p hp
 · rcases List.mem_cons.1 hp with rfl | hp
   · exact ⟨ht, by rw [hg]; exact a.b.size⟩
   · exact a.t p hp
theorem Al.far (a : Al w W bs ms) (hg : g = W.heap.size) : ∀ p ∈ bs, p.1 ≠ g := fun p hp e => by have := blk_lt (a.k p hp); omega
theorem Al.put8 {z0 z1 z2 z3 z4 z5 z6 z7 a0 a1 a2 a3 a4 a5 a6 a7 : Value} {t : TypeId} (a : Al w W ((g, #[z0, z1, z2, z3, z4, z5, z6, z7], t) :: bs) ms) (hne : ∀ p ∈ bs, p.1 ≠ g) (ht : ∀ q, q ∈ 45 :: k45.E → q ≠ t) :
 Al w ((((((((W.setCell ⟨g, 0, none⟩ a0).setCell ⟨g, 1, none⟩ a1).setCell ⟨g, 2, none⟩ a2).setCell ⟨g, 3, none⟩ a3).setCell ⟨g, 4, none⟩ a4).setCell ⟨g, 5, none⟩ a5).setCell ⟨g, 6, none⟩ a6).setCell ⟨g, 7, none⟩ a7) ((g, #[a0, a1, a2, a3, a4, a5, a6, a7], t) :: bs) ms := by
 have hk := a.k _ (.head _)
 have hs := (a.t _ (.head _)).2
 refine ⟨below_set (below_set (below_set (below_set (below_set (below_set (below_set (below_set a.b hs) hs) hs) hs) hs) hs) hs) hs, fun p hp => ?_, fun p hp => ?_, fun q hq => ⟨farR8_ (a.r q hq).1 hk ht, farR8_ (a.r q hq).2 hk ht⟩, fun q hq => ?_, a.p⟩
 · rcases List.mem_cons.1 hp with rfl | hp
   · exact put8_ hk
   · exact bfar8_ (hne p hp) (a.k p (.tail _ hp))
 · rcases List.mem_cons.1 hp with rfl | hp
   · exact a.t (g, #[z0, z1, z2, z3, z4, z5, z6, z7], t) (.head _)
   · exact a.t _ (.tail _ hp)
 · have := a.h q hq
   simpa [World.setCell] using this
theorem Al.rows {u v : Value} (a : Al w W bs ms) (hb : Below W.heap.size W W') (h0 : Kd.R k45 45 W' W.heap.size (fun k_ => some k_ ≠ v.ownBlock) u x) (h1 : Kd.R k45 45 W' W.heap.size (fun k_ => some k_ ≠ u.ownBlock) v y) : Al w W' bs (⟨u, v, W.heap.size, W'.heap.size, x, y⟩ :: ms) := by
 have a' := a.below hb
 refine ⟨a'.b, a'.k, a'.t, fun q hq => ?_, fun q hq => ?_, List.pairwise_cons.2 ⟨a.h, a'.p⟩⟩
 · rcases List.mem_cons.1 hq with rfl | hq
   · exact ⟨Kd.R_mono (Kd.R_lower (Kd.R_bound h0) a.b.size) (fun k hk => ⟨⟨hk.2.1, hk.2.2.1⟩, hk.1⟩), Kd.R_mono (Kd.R_lower (Kd.R_bound h1) a.b.size) (fun k hk => ⟨⟨hk.2.1, hk.2.2.1⟩, hk.1⟩)⟩
   · exact a'.r q hq
 · rcases List.mem_cons.1 hq with rfl | hq
   · exact Nat.le_refl _
   · exact a'.h q hq
theorem Al.mark {u v : Value} (a : Al w W bs (A ++ ⟨u, v, lo, hi, x, y⟩ :: B)) (hb : Below w.heap.size w W') (hk : Kept W W' (fun k_ => some k_ = u.ownBlock ∨ some k_ = v.ownBlock)) {P6 P7 : Nat → Prop} (h0 : MR1 w W' P6 u x') (h1 : MR1 w W' P7 v y') : Al w W' bs (A ++ ⟨u, v, lo, hi, x', y'⟩ :: B) := by
 have hm := a.r ⟨u, v, lo, hi, x, y⟩ (List.mem_append_right _ (.head _))
 obtain ⟨p1, p2, p3⟩ := List.pairwise_append.1 a.p
 obtain ⟨p4, p5⟩ := List.pairwise_cons.1 p2
 have far : ∀ q : MV, (hi ≤ q.lo ∨ q.hi ≤ lo) → (∀ k, (q.lo ≤ k ∧ k < q.hi) → ¬ (some k = u.ownBlock ∨ some k = v.ownBlock)) := fun q hq k hk' hs => by
  rcases hs with hs | hs
  · have := (hm.1.1 k hs.symm).1; dsimp only at this; omega
  · have := (hm.2.1 k hs.symm).1; dsimp only at this; omega
 have old : ∀ q : MV, q ∈ A ++ ⟨u, v, lo, hi, x, y⟩ :: B → (hi ≤ q.lo ∨ q.hi ≤ lo) → MR1 w W' (fun k => (q.lo ≤ k ∧ k < q.hi) ∧ some k ≠ q.v.ownBlock) q.u q.x ∧ MR1 w W' (fun k => (q.lo ≤ k ∧ k < q.hi) ∧ some k ≠ q.u.ownBlock) q.v q.y := fun q hq hd =>
  ⟨Kd.R_kept (a.r q hq).1 hk (fun k hk' => far q hd k hk'.1), Kd.R_kept (a.r q hq).2 hk (fun k hk' => far q hd k hk'.1)⟩
 refine ⟨hb, fun p hp => blk_kept (a.k p hp) hk ?_, a.t, fun q hq => ?_, fun q hq => ?_, List.pairwise_append.2 ⟨p1, List.pairwise_cons.2 ⟨p4, p5⟩, fun q hq q' hq' => ?_⟩⟩
 · rintro (e | e)
   · exact Kd.R_ne hm.1 (a.k p hp) (a.t p hp).1 e
   · exact Kd.R_ne hm.2 (a.k p hp) (a.t p hp).1 e
 · rcases List.mem_append.1 hq with hq | hq
   · exact old q (List.mem_append_left _ hq) (.inl (p3 q hq _ (.head _)))
   · rcases List.mem_cons.1 hq with rfl | hq
     · exact ⟨Kd.R_reok rfl h0 (fun k e => hm.1.1 k e), Kd.R_reok rfl h1 (fun k e => hm.2.1 k e)⟩
     · exact old q (List.mem_append_right _ (.tail _ hq)) (.inr (p4 q hq))
 · rcases List.mem_append.1 hq with hq | hq
   · exact Nat.le_trans (a.h q (List.mem_append_left _ hq)) hk.1
   · rcases List.mem_cons.1 hq with rfl | hq
     · exact Nat.le_trans (a.h ⟨u, v, lo, hi, x, y⟩ (List.mem_append_right _ (.head _))) hk.1
     · exact Nat.le_trans (a.h q (List.mem_append_right _ (.tail _ hq))) hk.1
 · rcases List.mem_cons.1 hq' with rfl | hq'
   · exact p3 q hq ⟨u, v, lo, hi, x, y⟩ (.head _)
   · exact p3 q hq _ (.tail _ hq')
theorem Al.rd {n6 n7 : Nat} (a : Al w W bs ms) (hq : (⟨.slice A6 n6 c6, .slice A7 n7 c7, lo, hi, x, y⟩ : MV) ∈ ms) : (Kd.C k45 W A6 x.length x ∧ n6 = x.length ∧ x.length ≤ c6) ∧ Kd.C k45 W A7 y.length y ∧ n7 = y.length ∧ y.length ≤ c7 := by
 have h0 := Kd.R_reads' (a.r _ hq).1
 have h1 := Kd.R_reads' (a.r _ hq).2
 exact ⟨⟨h0.2.2, h0.1, h0.1 ▸ h0.2.1⟩, h1.2.2, h1.1, h1.1 ▸ h1.2.1⟩
variable {p1 p4 p6 q1 q4 q6 : Int} {p2 p3 q2 q3 : Bool} {p5 q5 : ByteArray}
theorem eqA (a : Al w W bs ms) (hx : (⟨.slice A6 x.length c6, .slice A7 y.length c7, lo, hi, x, y⟩ : MV) ∈ ms) {lo' hi' : Nat} (hx' : (⟨.slice D6 x'.length d6, .slice D7 y'.length d7, lo', hi', x', y'⟩ : MV) ∈ ms) {b : Bool} (he : laws_eqMessage.f k p1 p2 p3 p4 p5 p6 x y q1 q2 q3 q4 q5 q6 x' y' = some b) :
 Calls Tryz.prog 42 #[.agg #[.int .i64 p1, .bool p2, .bool p3, .int .i64 p4, .string p5, .int .i64 p6, .slice A6 x.length c6, .slice A7 y.length c7], .agg #[.int .i64 q1, .bool q2, .bool q3, .int .i64 q4, .string q5, .int .i64 q6, .slice D6 x'.length d6, .slice D7 y'.length d7]] W fun e W' => e = .returned (.bool b) ∧ Al w W' bs ms :=
 (laws_eqMessage.calls k p1 p2 p3 p4 p5 p6 A6 c6 x A7 c7 y q1 q2 q3 q4 q5 q6 D6 d6 x' D7 d7 y' b W (a.rd hx).1.1 (a.rd hx).1.2.2 (a.rd hx).2.1 (a.rd hx).2.2.2 (a.rd hx').1.1 (a.rd hx').1.2.2 (a.rd hx').2.1 (a.rd hx').2.2.2 he).mono fun e W' h => ⟨h.1, a.below h.2⟩
theorem toA {B6 B7 : Option Addr} {e6 e7 : Nat} {l6 l7 : List LRec} (a : Al w W bs ms) (h6 : Kd.C k91 w B6 l6.length l6) (h6' : l6.length ≤ e6) (h7 : Kd.C k91 w B7 l7.length l7) (h7' : l7.length ≤ e7) (he : laws_toMessage.f k p1 p2 p3 p4 p5 p6 l6 l7 = some (q1, q2, q3, q4, q5, q6, x, y)) :
 Calls Tryz.prog 40 #[.agg #[.int .i64 p1, .bool p2, .bool p3, .int .i64 p4, .string p5, .int .i64 p6, .slice B6 l6.length e6, .slice B7 l7.length e7]] W fun e W' => ∃ A6 c6 A7 c7, e = .returned (.agg #[.int .i64 q1, .bool q2, .bool q3, .int .i64 q4, .string q5, .int .i64 q6, .slice A6 x.length c6, .slice A7 y.length c7]) ∧ Al w W' bs (⟨.slice A6 x.length c6, .slice A7 y.length c7, W.heap.size, W'.heap.size, x, y⟩ :: ms) :=
 (laws_toMessage.calls k p1 p2 p3 p4 p5 p6 B6 e6 l6 B7 e7 l7 q1 q2 q3 q4 q5 q6 x y W (Kd.C_below h6 a.b) h6' (Kd.C_below h7 a.b) h7' he).mono fun e W' h => by
  obtain ⟨u, v, rfl, h0, h1, hb⟩ := h
  obtain ⟨A6, c6, rfl⟩ := Kd.R_slice h0
  obtain ⟨A7, c7, rfl⟩ := Kd.R_slice h1
  exact ⟨A6, c6, A7, c7, rfl, a.rows hb h0 h1⟩
theorem cutS {z : Int} {b : Bool} (a : Al w W bs ms) (hx : (⟨.slice A6 x.length c6, .slice A7 y.length c7, lo, hi, x, y⟩ : MV) ∈ ms) (he : spec_CutMessage.f k p1 p2 p3 p4 p5 p6 x y z = some (q1, q2, q3, q4, q5, q6, x', y', b)) :
 Calls Tryz.prog 39 #[.agg #[.int .i64 p1, .bool p2, .bool p3, .int .i64 p4, .string p5, .int .i64 p6, .slice A6 x.length c6, .slice A7 y.length c7], .int .i64 z] W fun e W' => ∃ A6 c6 A7 c7, e = .returned (.tuple #[.agg #[.int .i64 q1, .bool q2, .bool q3, .int .i64 q4, .string q5, .int .i64 q6, .slice A6 x'.length c6, .slice A7 y'.length c7], .bool b]) ∧ Al w W' bs (⟨.slice A6 x'.length c6, .slice A7 y'.length c7, W.heap.size, W'.heap.size, x', y'⟩ :: ms) :=
 (spec_CutMessage.calls k p1 p2 p3 p4 p5 p6 A6 c6 x A7 c7 y z q1 q2 q3 q4 q5 q6 x' y' b W (a.rd hx).1.1 (a.rd hx).1.2.2 (a.rd hx).2.1 (a.rd hx).2.2.2 he).mono fun e W' h => by
  obtain ⟨u, v, rfl, h0, h1, hb⟩ := h
  obtain ⟨A6, c6, rfl⟩ := Kd.R_slice h0
  obtain ⟨A7, c7, rfl⟩ := Kd.R_slice h1
  exact ⟨A6, c6, A7, c7, rfl, a.rows hb h0 h1⟩
theorem cutI {z : Int} {b : Bool} (a : Al w W bs ms) (hv : Vars w) (hx : (⟨.slice A6 x.length c6, .slice A7 y.length c7, lo, hi, x, y⟩ : MV) ∈ ms) (he : impl_CutMessage.f k p1 p2 p3 p4 p5 p6 x y z = some (q1, q2, q3, q4, q5, q6, x', y', b)) :
 Calls Tryz.prog 41 #[.agg #[.int .i64 p1, .bool p2, .bool p3, .int .i64 p4, .string p5, .int .i64 p6, .slice A6 x.length c6, .slice A7 y.length c7], .int .i64 z] W fun e W' => ∃ A6 c6 A7 c7, e = .returned (.tuple #[.agg #[.int .i64 q1, .bool q2, .bool q3, .int .i64 q4, .string q5, .int .i64 q6, .slice A6 x'.length c6, .slice A7 y'.length c7], .bool b]) ∧ Al w W' bs (⟨.slice A6 x'.length c6, .slice A7 y'.length c7, W.heap.size, W'.heap.size, x', y'⟩ :: ms) :=
 (impl_CutMessage.calls k p1 p2 p3 p4 p5 p6 A6 c6 x A7 c7 y z q1 q2 q3 q4 q5 q6 x' y' b W (a.rd hx).1.1 (a.rd hx).1.2.2 (a.rd hx).2.1 (a.rd hx).2.2.2 he (Vars.below hv a.b)).mono fun e W' h => by
  obtain ⟨u, v, rfl, h0, h1, hb⟩ := h
  obtain ⟨A6, c6, rfl⟩ := Kd.R_slice h0
  obtain ⟨A7, c7, rfl⟩ := Kd.R_slice h1
  exact ⟨A6, c6, A7, c7, rfl, a.rows hb h0 h1⟩
theorem markA {z m : Int} {u v : Value} (A B : List MV) (a : Al w W bs (A ++ ⟨u, v, lo, hi, x, y⟩ :: B)) (he : laws_markMessage.f k p1 p2 p3 p4 p5 p6 x y z = some (m, x', y')) :
 Calls Tryz.prog 43 #[.agg #[.int .i64 p1, .bool p2, .bool p3, .int .i64 p4, .string p5, .int .i64 p6, u, v], .int .i64 z] W fun e W' => e = .returned (.int .i64 m) ∧ Al w W' bs (A ++ ⟨u, v, lo, hi, x', y'⟩ :: B) := by
 have hm := a.r ⟨u, v, lo, hi, x, y⟩ (List.mem_append_right _ (.head _))
 exact (laws_markMessage.calls k p1 p2 p3 p4 p5 p6 (fun k_ => some k_ = u.ownBlock) u x (fun k_ => some k_ = v.ownBlock) v y z m x' y' w W a.b (Kd.R_tight rfl hm.1) (fun k_ e_ => (hm.1.1 k_ e_.symm).2) (Kd.R_tight rfl hm.2) (fun k_ e_ => (hm.2.1 k_ e_.symm).2) he).mono fun e W' h => ⟨h.1, a.mark h.2.2.2.1 h.2.2.2.2 h.2.1 h.2.2.1⟩
theorem heldA {z m : Int} {n6 n7 : Nat} (a : Al w W bs ms) (hx : (⟨.slice A6 n6 c6, .slice A7 n7 c7, lo, hi, x, y⟩ : MV) ∈ ms) (he : laws_heldMessage.f k p1 p2 p3 p4 p5 p6 x y z = some m) :
 Calls Tryz.prog 44 #[.agg #[.int .i64 p1, .bool p2, .bool p3, .int .i64 p4, .string p5, .int .i64 p6, .slice A6 n6 c6, .slice A7 n7 c7], .int .i64 z] W fun e W' => e = .returned (.int .i64 m) ∧ Al w W' bs ms := by
 obtain ⟨⟨h1, h2, h3⟩, h4, h5, h6⟩ := a.rd hx
 subst h2 h5
 exact (laws_heldMessage.calls k p1 p2 p3 p4 p5 p6 A6 c6 x A7 c7 y z m W h1 h3 h4 h6 he).mono fun e W' h => ⟨h.1, a.below h.2⟩
end
end Go.Proofs.YtiegkjimpclmaaaGreatDoor.P
namespace Go.Proofs.YtiegkjimpclmaaaGreatDoor.Pure
open Go.Proofs.YtiegkjimpclmaaaGreatDoor.P
theorem keys_ev (q r : IRec) (hq : Small q.f0) (hr : Small r.f0) : ∃ t : Int, Ev (fun k => impl_compareKeys.f k q.f0 q.f1 q.f2 q.f3 r.f0 r.f1 r.f2 r.f3) t ∧ (t = 0 ↔ q.f0.data.toList = r.f0.data.toList ∧ q.f1 = r.f1) := by
 refine ⟨or2 (ordL q.f0.data.toList r.f0.data.toList) (cmpI q.f1 r.f1), ?_, ?_⟩
 · refine Ev.congr (fun k => rfl) (Ev.bind (implComp_ev _ _ hq hr) ?_)
   simp only [cmpI_eq, Option.bind_some]
   exact Ev.bind (or_two _ _) (Ev.now _)
 · rw [or2_zero, ord_zero, cmpI_zero]
theorem less_w {i : Nat} (h : i < 4611686018427387904) : wrap64 (((i + 1 : Nat) : Int) - 1) = (i : Int) := by unfold wrap64; omega
theorem less_loop (L : List IRec) (N : Nat) (hN : N + 1 = L.length) (hs : ∀ r ∈ L, Small r.f0) (hl : L.length < 1099511627776) : ∀ (i : Nat) (hi : i ≤ N), (L[i].f0.data.toList = L[N].f0.data.toList ∧ L[i].f1 = L[N].f1) →
 ∃ n, n ≤ i ∧ Ev (fun k => spec_l4Less.l0 k L (N : Int) (i : Int)) (L.take n) ∧ Ev (fun k => impl_withoutLast.l0 k L (i : Int)) (L.take n)
 | i, hi, hk => by
  have hJ : Ev (fun k => spec_l4Less.j1 k L (N : Int) (i : Int) false) (L.take i) := by
   refine Ev.step (fun k => ?_) (Ev.now (L.take i))
   rw [spec_l4Less.j1, if_neg (by decide), Option.bind_some, if_pos (by omega), if_pos (by omega), Option.bind_some, Int.toNat_natCast, if_pos (by simp; omega), List.nil_append]
  have hW : Ev (fun k => impl_withoutLast.j1 k L (i : Int) false) (L.take i) := by
   refine Ev.step (fun k => ?_) (Ev.now (L.take i))
   rw [impl_withoutLast.j1, if_neg (by decide), if_pos (by omega), if_pos (by omega), Int.toNat_natCast]
  cases i with
  | zero =>
   refine ⟨0, Nat.le_refl _, Ev.step (fun k => ?_) hJ, Ev.step (fun k => ?_) hW⟩
   · rw [spec_l4Less.l0, if_neg (by omega)]
   · rw [impl_withoutLast.l0, if_neg (by omega)]
  | succ i =>
   have h1 : i < L.length := by omega
   have h2 : i + 1 < L.length := by omega
   obtain ⟨t, t1, t2⟩ := keys_ev L[i] L[i + 1] (hs _ (List.getElem_mem h1)) (hs _ (List.getElem_mem h2))
   have hS : ∀ k, spec_l4Less.l0 (k + 1) L (N : Int) ((i + 1 : Nat) : Int) = (if L[i].f0.data.toList = L[N].f0.data.toList then (spec_l4Less.j1 k L (N : Int) ((i + 1 : Nat) : Int) (L[i].f1 == L[N].f1)) else (spec_l4Less.j1 k L (N : Int) ((i + 1 : Nat) : Int) false)) := fun k => by
    rw [spec_l4Less.l0, if_pos (by omega), less_w (by omega), if_pos (by omega), if_pos (by omega), if_pos (by omega), if_pos (by omega), rdI L i h1, rdI L N (by omega), Lib.toList_data, Lib.toList_data]
   have hI : ∀ k, impl_withoutLast.l0 (k + 1) L ((i + 1 : Nat) : Int) = ((impl_compareKeys.f k L[i].f0 L[i].f1 L[i].f2 L[i].f3 L[i + 1].f0 L[i + 1].f1 L[i + 1].f2 L[i + 1].f3).bind fun t1062 => (impl_withoutLast.j1 k L ((i + 1 : Nat) : Int) (t1062 == 0))) := fun k => by
    rw [impl_withoutLast.l0, if_pos (by omega), less_w (by omega), if_pos (by omega), if_pos (by omega), if_pos (by omega), if_pos (by omega), rdI L i h1, rdI L (i + 1) h2]
   by_cases c : L[i].f0.data.toList = L[N].f0.data.toList ∧ L[i].f1 = L[N].f1
   · obtain ⟨n, n0, n1, n2⟩ := less_loop L N hN hs hl i (by omega) c
     have ht : t = 0 := t2.2 ⟨c.1.trans hk.1.symm, c.2.trans hk.2.symm⟩
     refine ⟨n, by omega, Ev.step hS ?_, Ev.step hI (Ev.bind t1 ?_)⟩
     · simp only [if_pos c.1, beq_iff_eq.2 c.2]
       refine Ev.step (fun k => ?_) n1
       rw [spec_l4Less.j1, if_pos rfl, less_w (by omega)]
     · rw [ht]
       refine Ev.step (fun k => ?_) n2
       rw [impl_withoutLast.j1, if_pos (by decide), less_w (by omega)]
   · have ht : ¬ t = 0 := fun e => by
      have := t2.1 e
      exact c ⟨this.1.trans hk.1, this.2.trans hk.2⟩
     refine ⟨i + 1, Nat.le_refl _, Ev.step hS ?_, Ev.step hI (Ev.bind t1 ?_)⟩
     · by_cases c1 : L[i].f0.data.toList = L[N].f0.data.toList
       · have c2 : (L[i].f1 == L[N].f1) = false := beq_eq_false_iff_ne.2 fun e => c ⟨c1, e⟩
         simp only [if_pos c1, c2]
         exact hJ
       · simp only [if_neg c1]
         exact hJ
     · rw [show (t == 0) = false from beq_eq_false_iff_ne.2 ht]
       exact hW
theorem less_both (L : List IRec) (h0 : 0 < L.length) (hs : ∀ r ∈ L, Small r.f0) (hl : L.length < 1099511627776) : ∃ n, n < L.length ∧ Ev (fun k => spec_l4Less.f k L) (L.take n) ∧ Ev (fun k => impl_withoutLast.f k L) (L.take n) := by
 obtain ⟨n, n0, n1, n2⟩ := less_loop L (L.length - 1) (by omega) hs hl (L.length - 1) (Nat.le_refl _) ⟨rfl, rfl⟩
 have hw : wrap64 ((L.length : Int) - 1) = ((L.length - 1 : Nat) : Int) := by unfold wrap64; omega
 refine ⟨n, by omega, Ev.congr (fun k => ?_) n1, Ev.congr (fun k => ?_) n2⟩
 · unfold spec_l4Less.f
   rw [hw]
 · unfold impl_withoutLast.f
   rw [hw]
abbrev CutR := Int × Bool × Bool × Int × ByteArray × Int × List IRec × List IRec × Bool
abbrev badC : CutR := (0, false, false, 0, (⟨#[]⟩ : ByteArray), 0, [], [], false)
theorem own_eq (id : Int) (re cu : Bool) (co : Int) (nm : ByteArray) (ty : Int) (l6 l7 : List IRec) (h6 : l6.length ≤ 12) (h7 : l7.length ≤ 12) : impl_ownMessage.f id re cu co nm ty l6 l7 = some (id, re, cu, co, nm, ty, l6, l7) := by
 unfold impl_ownMessage.f slices_Clone_rec.f
 rw [if_pos (by omega), if_pos (by omega)]
 rfl
theorem cut_loop (z : Int) (hz : z ≤ 600) (id : Int) (re : Bool) (co : Int) (nm : ByteArray) (ty : Int) (hn : goodL nm.data.toList = true) : ∀ (m : Nat) (cu : Bool) (l6 l7 : List IRec), l6.length + l7.length ≤ m → l6.length ≤ 12 → l7.length ≤ 12 → (∀ r ∈ l6, GdR r) → (∀ r ∈ l7, GdR r) →
 ∃ (r1 : Int) (r2 r3 : Bool) (r4 : Int) (r5 : ByteArray) (r6 : Int) (r7 r8 : List IRec) (b : Bool), r7.length ≤ 12 ∧ r8.length ≤ 12 ∧ Ev (fun k => spec_CutMessage.l0 k z id re cu co nm ty l6 l7) (r1, r2, r3, r4, r5, r6, r7, r8, b) ∧ Ev (fun k => impl_CutMessage.l0 k z id re cu co nm ty l6 l7) (r1, r2, r3, r4, r5, r6, r7, r8, b)
 | m, cu, l6, l7, hm, h6, h7, g6, g7 => by
  obtain ⟨B, b, ok, e1, e2, e3, e4⟩ := bytes_both id re cu co nm ty l6 l7 hn h6 h7 g6 g7
  by_cases hB : (B.size : Int) > z
  · -- both cut
    have hS : ∀ {R : CutR}, Ev (fun k => if (l7.length : Int) > 0 then ((spec_l4Less.f k l7).bind fun t978 => (spec_CutMessage.l0 k z id re true co nm ty l6 t978)) else (if (l6.length : Int) > 0 then ((spec_l4Less.f k l6).bind fun t981 => (spec_CutMessage.l0 k z id re true co nm ty t981 l7)) else (some badC))) R → Ev (fun k => spec_CutMessage.l0 k z id re cu co nm ty l6 l7) R := fun h => by
     refine Ev.step (fun k => by rw [spec_CutMessage.l0]) (Ev.bind e1 ?_)
     simp only [if_pos hB]
     exact h
    have hI : ∀ {R : CutR}, Ev (fun k => if (l7.length : Int) > 0 then ((impl_withoutLast.f k l7).bind fun t1084 => (impl_CutMessage.l0 k z id re true co nm ty l6 t1084)) else (if (l6.length : Int) > 0 then ((impl_withoutLast.f k l6).bind fun t1087 => (impl_CutMessage.l0 k z id re true co nm ty t1087 l7)) else (some badC))) R → Ev (fun k => impl_CutMessage.l0 k z id re cu co nm ty l6 l7) R := fun h => by
     refine Ev.step (fun k => by rw [impl_CutMessage.l0]) (Ev.bind e2 ?_)
     have hj : Ev (fun k => impl_CutMessage.j2 k z false id re cu co nm ty l6 l7) _ := Ev.step (fun k => by rw [impl_CutMessage.j2, if_neg (by decide)]) h
     cases ok with
     | true =>
      obtain rfl := e3 rfl
      simp only [if_true, decide_eq_false (show ¬ (b.size : Int) ≤ z by omega)]
      exact hj
     | false =>
      simp only [Bool.false_eq_true, if_false]
      exact hj
    by_cases c7 : 0 < l7.length
    · obtain ⟨n, n0, n1, n2⟩ := less_both l7 c7 (fun r hr => (g7 r hr).1.1) (by omega)
      cases m with
      | zero => omega
      | succ m =>
       obtain ⟨r1, r2, r3, r4, r5, r6, r7, r8, q, q7, q8, q1, q2⟩ := cut_loop z hz id re co nm ty hn m true l6 (l7.take n) (by rw [List.length_take]; omega) h6 (by rw [List.length_take]; omega) g6 (fun r hr => g7 r (List.mem_of_mem_take hr))
       refine ⟨r1, r2, r3, r4, r5, r6, r7, r8, q, q7, q8, hS ?_, hI ?_⟩
       · simp only [if_pos (show (l7.length : Int) > 0 by omega)]
         exact Ev.bind n1 q1
       · simp only [if_pos (show (l7.length : Int) > 0 by omega)]
         exact Ev.bind n2 q2
    · by_cases c6 : 0 < l6.length
      · obtain ⟨n, n0, n1, n2⟩ := less_both l6 c6 (fun r hr => (g6 r hr).1.1) (by omega)
        cases m with
        | zero => omega
        | succ m =>
         obtain ⟨r1, r2, r3, r4, r5, r6, r7, r8, q, q7, q8, q1, q2⟩ := cut_loop z hz id re co nm ty hn m true (l6.take n) l7 (by rw [List.length_take]; omega) (by rw [List.length_take]; omega) h7 (fun r hr => g6 r (List.mem_of_mem_take hr)) g7
         refine ⟨r1, r2, r3, r4, r5, r6, r7, r8, q, q7, q8, hS ?_, hI ?_⟩
         · simp only [if_neg (show ¬ (l7.length : Int) > 0 by omega), if_pos (show (l6.length : Int) > 0 by omega)]
           exact Ev.bind n1 q1
         · simp only [if_neg (show ¬ (l7.length : Int) > 0 by omega), if_pos (show (l6.length : Int) > 0 by omega)]
           exact Ev.bind n2 q2
      · refine ⟨0, false, false, 0, (⟨#[]⟩ : ByteArray), 0, [], [], false, by decide, by decide, hS ?_, hI ?_⟩
        · simp only [if_neg (show ¬ (l7.length : Int) > 0 by omega), if_neg (show ¬ (l6.length : Int) > 0 by omega)]
          exact Ev.now _
        · simp only [if_neg (show ¬ (l7.length : Int) > 0 by omega), if_neg (show ¬ (l6.length : Int) > 0 by omega)]
          exact Ev.now _
  · have hok : ok = true := by
     cases ok with
     | true => rfl
     | false => have := e4 rfl; omega
    subst hok
    obtain rfl := e3 rfl
    refine ⟨id, re, cu, co, nm, ty, l6, l7, true, h6, h7, Ev.step (fun k => by rw [spec_CutMessage.l0]) (Ev.bind e1 ?_), Ev.step (fun k => by rw [impl_CutMessage.l0]) (Ev.bind e2 ?_)⟩
    · simp only [if_neg hB]
      exact Ev.now _
    · simp only [if_true, decide_eq_true (show (b.size : Int) ≤ z by omega)]
      refine Ev.step (fun k => by rw [impl_CutMessage.j2, if_pos rfl, own_eq _ _ _ _ _ _ _ _ h6 h7, Option.bind_some]) (Ev.now _)
theorem are_good : ∀ (l : List IRec), (∀ y ∈ l, Small y.f0 ∧ Small y.f3) → Ev (fun k => impl_areRecords.f k l) true → ∀ r ∈ l, GdR r
 | [], _, _, r, hr => by cases hr
 | x :: l, hs, h, r, hr => by
  obtain ⟨b, _, _, b2, _⟩ := goodrec_both x.f0 x.f1 x.f2 x.f3 (hs x (.head _)).1 (hs x (.head _)).2
  cases b with
  | false =>
   have hf : Ev (fun k => impl_areRecords.f k (x :: l)) false := Ev.congr (fun k => rfl) (Ev.bind b2 (Ev.now _))
   cases Ev.unique h hf
  | true =>
   rcases List.mem_cons.1 hr with rfl | hr
   · exact ⟨hs r (.head _), b2⟩
   · refine are_good l (fun y hy => hs y (.tail _ hy)) ?_ r hr
     obtain ⟨K, hK⟩ := h
     obtain ⟨K2, hK2⟩ := b2
     refine ⟨max K K2, fun k hk => ?_⟩
     have h1 := hK k (by omega)
     have h2 := hK2 k (by omega)
     simp only [impl_areRecords.f] at h1
     dsimp only at h2
     rw [h2, Option.bind_some, if_pos rfl] at h1
     exact h1
theorem cut_both (id : Int) (re cu : Bool) (co : Int) (nm : ByteArray) (ty : Int) (l6 l7 : List IRec) (z : Int) (hn : Small nm) (h6 : l6.length ≤ 1048576) (h7 : l7.length ≤ 1048576) (s6 : ∀ y ∈ l6, Small y.f0 ∧ Small y.f3) (s7 : ∀ y ∈ l7, Small y.f0 ∧ Small y.f3) :
 ∃ (r1 : Int) (r2 r3 : Bool) (r4 : Int) (r5 : ByteArray) (r6 : Int) (r7 r8 : List IRec) (b : Bool), r7.length ≤ 12 ∧ r8.length ≤ 12 ∧ Ev (fun k => spec_CutMessage.f k id re cu co nm ty l6 l7 z) (r1, r2, r3, r4, r5, r6, r7, r8, b) ∧ Ev (fun k => impl_CutMessage.f k id re cu co nm ty l6 l7 z) (r1, r2, r3, r4, r5, r6, r7, r8, b) := by
 obtain ⟨g6, g7, a6, a7, m1, m2⟩ := msg_both id re cu co nm ty l6 l7 hn h6 h7 s6 s7
 have jS : Ev (fun k => spec_CutMessage.j0 k z true id re cu co nm ty l6 l7) badC := Ev.step (fun k => by rw [spec_CutMessage.j0, if_pos rfl]) (Ev.now _)
 have jI : Ev (fun k => impl_CutMessage.j0 k z true id re cu co nm ty l6 l7) badC := Ev.step (fun k => by rw [impl_CutMessage.j0, if_pos rfl]) (Ev.now _)
 cases hB : msgB id re cu co nm.data.toList ty l6.length l7.length g6 g7 with
 | false =>
  rw [hB] at m1 m2
  refine ⟨0, false, false, 0, (⟨#[]⟩ : ByteArray), 0, [], [], false, by decide, by decide, Ev.congr (fun k => rfl) (Ev.bind m1 ?_), Ev.congr (fun k => rfl) (Ev.bind m2 ?_)⟩
  · simp only [Bool.false_eq_true, if_false]
    exact jS
  · simp only [Bool.false_eq_true, if_false]
    exact jI
 | true =>
  rw [hB] at m1 m2
  cases re with
  | false =>
   refine ⟨0, false, false, 0, (⟨#[]⟩ : ByteArray), 0, [], [], false, by decide, by decide, Ev.congr (fun k => rfl) (Ev.bind m1 ?_), Ev.congr (fun k => rfl) (Ev.bind m2 ?_)⟩
   · simp only [if_true, Bool.false_eq_true, if_false]
     exact jS
   · simp only [if_true, Bool.false_eq_true, if_false]
     exact jI
  | true =>
   by_cases hz : 20 ≤ z ∧ z ≤ 600
   · have hB' := hB
     unfold msgB at hB'
     simp only [Bool.and_eq_true, decide_eq_true_eq] at hB'
     obtain ⟨_, _, hg, _, ⟨k6, n6⟩, ⟨k7, n7⟩, _⟩ := hB'
     subst k6 k7
     obtain ⟨r1, r2, r3, r4, r5, r6, r7, r8, b, q7, q8, q1, q2⟩ := cut_loop z hz.2 id true co nm ty hg _ cu l6 l7 (Nat.le_refl _) (by omega) (by omega) (are_good l6 s6 a6) (are_good l7 s7 a7)
     refine ⟨r1, r2, r3, r4, r5, r6, r7, r8, b, q7, q8, Ev.congr (fun k => rfl) (Ev.bind m1 ?_), Ev.congr (fun k => rfl) (Ev.bind m2 ?_)⟩
     · simp only [if_true, within_spec, Option.bind_some, decide_eq_true hz, Bool.not_true]
       refine Ev.step (fun k => ?_) q1
       rw [spec_CutMessage.j0, if_neg (by decide), Option.bind_some, if_pos (by simp; omega), Option.bind_some, if_pos (by simp; omega), List.nil_append, List.nil_append]
     · simp only [if_true, within_eq, Option.bind_some, decide_eq_true hz, Bool.not_true]
       refine Ev.step (fun k => ?_) q2
       rw [impl_CutMessage.j0, if_neg (by decide)]
   · refine ⟨0, false, false, 0, (⟨#[]⟩ : ByteArray), 0, [], [], false, by decide, by decide, Ev.congr (fun k => rfl) (Ev.bind m1 ?_), Ev.congr (fun k => rfl) (Ev.bind m2 ?_)⟩
     · simp only [if_true, within_spec, Option.bind_some, decide_eq_false hz, Bool.not_false]
       exact jS
     · simp only [if_true, within_eq, Option.bind_some, decide_eq_false hz, Bool.not_false]
       exact jI
end Go.Proofs.YtiegkjimpclmaaaGreatDoor.Pure
