/- FnExactCutMessage: part 9 of 14 of my texts for this claim, joined; the theorem stands in the last. Conditions: none beyond the statement's. -/
import Derived.Test.YtiegkjimpclmaaaGreatDoorMFnExactCutMessagex7
import Derived.Sort.Walk0
import Derived.Sort.Statements
import Derived.Lib.SlicesCompact
open Go.RowKit Go.Proofs.YtiegkjimpclmaaaGreatDoorW.PrintWords Go.Proofs.YtiegkjimpclmaaaGreatDoorW.PrintLast Go.Proofs.YtiegkjimpclmaaaGreatDoorW.PrintMore
set_option linter.unusedVariables false
set_option linter.unusedSimpArgs false
set_option maxHeartbeats 8000000
set_option maxRecDepth 100000
namespace Go.Proofs.YtiegkjimpclmaaaGreatDoor.P
attribute [local go_sem] max2_int min2_int max_two min_two max_three min_three max_four min_four
def spec_GoodMessage.f (k : Nat) (a0_0 : Int) (a0_1 : Bool) (a0_2 : Bool) (a0_3 : Int) (a0_4 : ByteArray) (a0_5 : Int) (l0_6 : List (S45)) (l0_7 : List (S45)) : Option (Bool) := (spec_l1In.f a0_0 0 65535).bind fun t896 => (if t896 = true then ((spec_l1Has.f k (([0, 1, 3, 5] : List Int)) a0_3).bind fun t900 => (if t900 = true then ((spec_GoodName.f k a0_4).bind fun t901 => (if t901 = true then ((spec_l3Type.f k a0_5).bind fun t902 => (if t902 = true then ((spec_l4Records.f k l0_6).bind fun t903 => (if t903 = true then ((spec_l4Records.f k l0_7).bind fun t904 => (if t904 = true then (if a0_1 = true then (some true) else (if a0_2 = true then (some false) else (if a0_3 = 0 then (if (l0_6.length : Int) = 0 then (some ((l0_7.length : Int) == 0)) else (some false)) else (some false)))) else (some false))) else (some false))) else (some false))) else (some false))) else (some false))) else (some false))
theorem spec_GoodMessage.calls (k : Nat) (a0_0 : Int) (a0_1 : Bool) (a0_2 : Bool) (a0_3 : Int) (a0_4 : ByteArray) (a0_5 : Int) (A0_6 : Option Addr) (c0_6 : Nat) (l0_6 : List (S45)) (A0_7 : Option Addr) (c0_7 : Nat) (l0_7 : List (S45)) (r : Bool) (w : World) (hr0_6 : Kd.C k45 w A0_6 l0_6.length l0_6) (hc0_6 : l0_6.length ≤ c0_6) (hr0_7 : Kd.C k45 w A0_7 l0_7.length l0_7) (hc0_7 : l0_7.length ≤ c0_7) (h : spec_GoodMessage.f k a0_0 a0_1 a0_2 a0_3 a0_4 a0_5 l0_6 l0_7 = some r) :
 Calls Tryz.prog 101 #[.agg #[.int .i64 a0_0, .bool a0_1, .bool a0_2, .int .i64 a0_3, .string a0_4, .int .i64 a0_5, .slice A0_6 l0_6.length c0_6, .slice A0_7 l0_7.length c0_7]] w fun e w' => e = .returned (.bool r) ∧ Below w.heap.size w w' := by
 have hu62 := Tryz.underlying62
 have HR0_6 := a0_ hr0_6
 have HC0_6 := a0_ hc0_6
 clear hr0_6 hc0_6
 have HR0_7 := a0_ hr0_7
 have HC0_7 := a0_ hc0_7
 clear hr0_7 hc0_7
 have HB := a0_ (Below.refl w.heap.size w)
 have H := h
 clear h
 unfold spec_GoodMessage.f at H
 obtain ⟨t896, A2, H⟩ := ob_ H
 by_cases c3 : t896 = true
 case neg =>
  replace c3 := Bool.eq_false_iff.mpr c3
  subst c3
  rw [if_neg ff_] at H
  obtain rfl := Option.some.inj H
  go_enter Tryz.func101, Tryz.ntmps101
  go_wp2_with (first | ((with_reducible refine gate_dst (N := 1) rfl ?_); (try (refine gate_guard (by rfl) ?_; dsimp only)); refine boxS_ 1 #[.int .i64 a0_0, .bool a0_1, .bool a0_2, .int .i64 a0_3, .string a0_4, .int .i64 a0_5, .slice A0_6 l0_6.length c0_6, .slice A0_7 l0_7.length c0_7] 62 (fun gb895 hg w134 hbox hb => ?_); have BK895 := a0_ (hbox); have GW895 := a0_ (gw_ hg : w.heap.size ≤ gb895); replace HB := a0_ (below_step bq0_ hb); have GE895 := GW895; clear hb hbox hg; obtain ⟨_, _, _, _, _, _, _, _, _, _, _, _, _, _, _, _⟩ := bk8_ BK895.out) | ((with_reducible refine gt_ 102 rfl ?_); refine gs_ 5 Tryz.func102 #[.int .i64 a0_0, .int .i64 0, .int .i64 65535] ?_; (with_reducible refine (spec_l1In.calls a0_0 0 65535 false _ A2.out).mono ?_); rintro e w' ⟨rfl, ⟨nd, rfl⟩⟩; refine ⟨_, rfl, ?_⟩))
  go_ret
  exact ⟨rr_, bq1_⟩
 subst c3
 rw [if_pos rfl] at H
 obtain ⟨y897, hy897⟩ : ∃ y_ : List Int, y_ = (([0, 1, 3, 5] : List Int)) := ⟨_, rfl⟩
 rw [← hy897] at H
 have Ny897 := a0_ hy897
 clear hy897
 obtain ⟨t900, A4, H⟩ := ob_ H
 by_cases c5 : t900 = true
 case neg =>
  replace c5 := Bool.eq_false_iff.mpr c5
  subst c5
  rw [if_neg ff_] at H
  obtain rfl := Option.some.inj H
  go_enter Tryz.func101, Tryz.ntmps101
  go_wp2_with (first | ((with_reducible refine gate_dst (N := 1) rfl ?_); (try (refine gate_guard (by rfl) ?_; dsimp only)); refine boxS_ 1 #[.int .i64 a0_0, .bool a0_1, .bool a0_2, .int .i64 a0_3, .string a0_4, .int .i64 a0_5, .slice A0_6 l0_6.length c0_6, .slice A0_7 l0_7.length c0_7] 62 (fun gb895 hg w128 hbox hb => ?_); have BK895 := a0_ (hbox); have GW895 := a0_ (gw_ hg : w.heap.size ≤ gb895); replace HB := a0_ (below_step bq0_ hb); have GE895 := GW895; clear hb hbox hg; obtain ⟨_, _, _, _, _, _, _, _, _, _, _, _, _, _, _, _⟩ := bk8_ BK895.out) | ((with_reducible refine gt_ 102 rfl ?_); refine gs_ 5 Tryz.func102 #[.int .i64 a0_0, .int .i64 0, .int .i64 65535] ?_; (with_reducible refine (spec_l1In.calls a0_0 0 65535 true _ A2.out).mono ?_); rintro e w' ⟨rfl, ⟨nd, rfl⟩⟩; refine ⟨_, rfl, ?_⟩) | ((with_reducible refine gate_dst (N := 8) rfl ?_); (try (refine gate_guard (by rfl) ?_; dsimp only)); refine Kd.R_lit (Kd.int .i64) _ 3 ?hg (N := 8) ?hd (xs := ([0, 1, 3, 5] : List Int)) (inner := [.int .i64 0, .int .i64 1, .int .i64 3, .int .i64 5]) (ok := fun _ => True) (okp := fun _ => True) ?hr ?hp (fun _ hk => hk) trivial (Below.refl _ _) (Nat.le_refl _) (by simp) ?_; (case hd => rfl); (case hg => rfl); (case hr => first | (go_simp; done) | (go_simp; rfl)); (case hp => exact (Reps.one (show Kd.M (Kd.int .i64) _ _ _ 0 [.int .i64 0] from rfl) (Reps.one (show Kd.M (Kd.int .i64) _ _ _ 1 [.int .i64 1] from rfl) (Reps.one (show Kd.M (Kd.int .i64) _ _ _ 3 [.int .i64 3] from rfl) (Reps.one (show Kd.M (Kd.int .i64) _ _ _ 5 [.int .i64 5] from rfl) (Reps.none _ _)))))); intro v898 w130 ho131 hb hg_ hnew_; clear hg_ hnew_; (first | rw [← Ny897.out] at ho131 | (simp only [Int.reduceToNat] at ho131; rw [← Ny897.out] at ho131)); have HO899 := a0_ (Kd.R_lower ho131 (below_size bq1_)); replace BK895 := a0_ (bkB_ BK895 hb); replace HB := a0_ (below_step bq1_ hb); clear hb ho131; obtain ⟨_, _, _, _, _, _, _, _, _, _, _, _, _, _, _, _⟩ := bk8_ BK895.out; obtain ⟨Ao133, co133, eo133⟩ := Kd.R_slice HO899.out; subst eo133) | (go_at_call 156; (with_reducible refine (spec_l1Has.calls k _ _ y897 a0_3 false _ ?side1 ?side2 A4.out).mono ?_); (case side1 => exact kD_ (Kd.R_reads' HO899.out).2.2); (case side2 => exact (Kd.R_reads' HO899.out).2.1); rintro e w' ⟨rfl, ⟨nd, rfl⟩⟩))
  go_ret
  exact ⟨rr_, bq1_⟩
 subst c5
 rw [if_pos rfl] at H
 obtain ⟨t901, A6, H⟩ := ob_ H
 by_cases c7 : t901 = true
 case neg =>
  replace c7 := Bool.eq_false_iff.mpr c7
  subst c7
  rw [if_neg ff_] at H
  obtain rfl := Option.some.inj H
  go_enter Tryz.func101, Tryz.ntmps101
  go_wp2_with (first | ((with_reducible refine gate_dst (N := 1) rfl ?_); (try (refine gate_guard (by rfl) ?_; dsimp only)); refine boxS_ 1 #[.int .i64 a0_0, .bool a0_1, .bool a0_2, .int .i64 a0_3, .string a0_4, .int .i64 a0_5, .slice A0_6 l0_6.length c0_6, .slice A0_7 l0_7.length c0_7] 62 (fun gb895 hg w121 hbox hb => ?_); have BK895 := a0_ (hbox); have GW895 := a0_ (gw_ hg : w.heap.size ≤ gb895); replace HB := a0_ (below_step bq0_ hb); have GE895 := GW895; clear hb hbox hg; obtain ⟨_, _, _, _, _, _, _, _, _, _, _, _, _, _, _, _⟩ := bk8_ BK895.out) | ((with_reducible refine gt_ 102 rfl ?_); refine gs_ 5 Tryz.func102 #[.int .i64 a0_0, .int .i64 0, .int .i64 65535] ?_; (with_reducible refine (spec_l1In.calls a0_0 0 65535 true _ A2.out).mono ?_); rintro e w' ⟨rfl, ⟨nd, rfl⟩⟩; refine ⟨_, rfl, ?_⟩) | ((with_reducible refine gate_dst (N := 8) rfl ?_); (try (refine gate_guard (by rfl) ?_; dsimp only)); refine Kd.R_lit (Kd.int .i64) _ 3 ?hg (N := 8) ?hd (xs := ([0, 1, 3, 5] : List Int)) (inner := [.int .i64 0, .int .i64 1, .int .i64 3, .int .i64 5]) (ok := fun _ => True) (okp := fun _ => True) ?hr ?hp (fun _ hk => hk) trivial (Below.refl _ _) (Nat.le_refl _) (by simp) ?_; (case hd => rfl); (case hg => rfl); (case hr => first | (go_simp; done) | (go_simp; rfl)); (case hp => exact (Reps.one (show Kd.M (Kd.int .i64) _ _ _ 0 [.int .i64 0] from rfl) (Reps.one (show Kd.M (Kd.int .i64) _ _ _ 1 [.int .i64 1] from rfl) (Reps.one (show Kd.M (Kd.int .i64) _ _ _ 3 [.int .i64 3] from rfl) (Reps.one (show Kd.M (Kd.int .i64) _ _ _ 5 [.int .i64 5] from rfl) (Reps.none _ _)))))); intro v898 w123 ho124 hb hg_ hnew_; clear hg_ hnew_; (first | rw [← Ny897.out] at ho124 | (simp only [Int.reduceToNat] at ho124; rw [← Ny897.out] at ho124)); have HO899 := a0_ (Kd.R_lower ho124 (below_size bq1_)); replace BK895 := a0_ (bkB_ BK895 hb); replace HB := a0_ (below_step bq1_ hb); clear hb ho124; obtain ⟨_, _, _, _, _, _, _, _, _, _, _, _, _, _, _, _⟩ := bk8_ BK895.out; obtain ⟨Ao126, co126, eo126⟩ := Kd.R_slice HO899.out; subst eo126) | (go_at_call 156; (with_reducible refine (spec_l1Has.calls k _ _ y897 a0_3 true _ ?side1 ?side2 A4.out).mono ?_); (case side1 => exact kD_ (Kd.R_reads' HO899.out).2.2); (case side2 => exact (Kd.R_reads' HO899.out).2.1); rintro e w' ⟨rfl, ⟨nd, rfl⟩⟩) | (go_at_call 127; (with_reducible refine (spec_GoodName.calls k a0_4 false _ A6.out).mono ?_); rintro e w127 ⟨rfl, hb⟩; replace HO899 := a0_ (Kd.R_below (kR_ HO899.out) hb); replace BK895 := a0_ (bkB_ BK895 hb); replace HB := a0_ (below_step bq1_ hb); clear hb))
  go_ret
  exact ⟨rr_, bq1_⟩
 subst c7
 rw [if_pos rfl] at H
 obtain ⟨t902, A8, H⟩ := ob_ H
 by_cases c9 : t902 = true
 case neg =>
  replace c9 := Bool.eq_false_iff.mpr c9
  subst c9
  rw [if_neg ff_] at H
  obtain rfl := Option.some.inj H
  go_enter Tryz.func101, Tryz.ntmps101
  go_wp2_with (first | ((with_reducible refine gate_dst (N := 1) rfl ?_); (try (refine gate_guard (by rfl) ?_; dsimp only)); refine boxS_ 1 #[.int .i64 a0_0, .bool a0_1, .bool a0_2, .int .i64 a0_3, .string a0_4, .int .i64 a0_5, .slice A0_6 l0_6.length c0_6, .slice A0_7 l0_7.length c0_7] 62 (fun gb895 hg w112 hbox hb => ?_); have BK895 := a0_ (hbox); have GW895 := a0_ (gw_ hg : w.heap.size ≤ gb895); replace HB := a0_ (below_step bq0_ hb); have GE895 := GW895; clear hb hbox hg; obtain ⟨_, _, _, _, _, _, _, _, _, _, _, _, _, _, _, _⟩ := bk8_ BK895.out) | ((with_reducible refine gt_ 102 rfl ?_); refine gs_ 5 Tryz.func102 #[.int .i64 a0_0, .int .i64 0, .int .i64 65535] ?_; (with_reducible refine (spec_l1In.calls a0_0 0 65535 true _ A2.out).mono ?_); rintro e w' ⟨rfl, ⟨nd, rfl⟩⟩; refine ⟨_, rfl, ?_⟩) | ((with_reducible refine gate_dst (N := 8) rfl ?_); (try (refine gate_guard (by rfl) ?_; dsimp only)); refine Kd.R_lit (Kd.int .i64) _ 3 ?hg (N := 8) ?hd (xs := ([0, 1, 3, 5] : List Int)) (inner := [.int .i64 0, .int .i64 1, .int .i64 3, .int .i64 5]) (ok := fun _ => True) (okp := fun _ => True) ?hr ?hp (fun _ hk => hk) trivial (Below.refl _ _) (Nat.le_refl _) (by simp) ?_; (case hd => rfl); (case hg => rfl); (case hr => first | (go_simp; done) | (go_simp; rfl)); (case hp => exact (Reps.one (show Kd.M (Kd.int .i64) _ _ _ 0 [.int .i64 0] from rfl) (Reps.one (show Kd.M (Kd.int .i64) _ _ _ 1 [.int .i64 1] from rfl) (Reps.one (show Kd.M (Kd.int .i64) _ _ _ 3 [.int .i64 3] from rfl) (Reps.one (show Kd.M (Kd.int .i64) _ _ _ 5 [.int .i64 5] from rfl) (Reps.none _ _)))))); intro v898 w114 ho115 hb hg_ hnew_; clear hg_ hnew_; (first | rw [← Ny897.out] at ho115 | (simp only [Int.reduceToNat] at ho115; rw [← Ny897.out] at ho115)); have HO899 := a0_ (Kd.R_lower ho115 (below_size bq1_)); replace BK895 := a0_ (bkB_ BK895 hb); replace HB := a0_ (below_step bq1_ hb); clear hb ho115; obtain ⟨_, _, _, _, _, _, _, _, _, _, _, _, _, _, _, _⟩ := bk8_ BK895.out; obtain ⟨Ao117, co117, eo117⟩ := Kd.R_slice HO899.out; subst eo117) | (go_at_call 156; (with_reducible refine (spec_l1Has.calls k _ _ y897 a0_3 true _ ?side1 ?side2 A4.out).mono ?_); (case side1 => exact kD_ (Kd.R_reads' HO899.out).2.2); (case side2 => exact (Kd.R_reads' HO899.out).2.1); rintro e w' ⟨rfl, ⟨nd, rfl⟩⟩) | (go_at_call 127; (with_reducible refine (spec_GoodName.calls k a0_4 true _ A6.out).mono ?_); rintro e w118 ⟨rfl, hb⟩; replace HO899 := a0_ (Kd.R_below (kR_ HO899.out) hb); replace BK895 := a0_ (bkB_ BK895 hb); replace HB := a0_ (below_step bq1_ hb); clear hb; obtain ⟨_, _, _, _, _, _, _, _, _, _, _, _, _, _, _, _⟩ := bk8_ BK895.out) | (go_at_call 157; (with_reducible refine (spec_l3Type.calls k a0_5 false _ A8.out).mono ?_); rintro e w120 ⟨rfl, hb⟩; replace HO899 := a0_ (Kd.R_below (kR_ HO899.out) hb); replace BK895 := a0_ (bkB_ BK895 hb); replace HB := a0_ (below_step bq1_ hb); clear hb))
  go_ret
  exact ⟨rr_, bq1_⟩
 subst c9
 rw [if_pos rfl] at H
 obtain ⟨t903, A10, H⟩ := ob_ H
 by_cases c11 : t903 = true
 case neg =>
  replace c11 := Bool.eq_false_iff.mpr c11
  subst c11
  rw [if_neg ff_] at H
  obtain rfl := Option.some.inj H
  go_enter Tryz.func101, Tryz.ntmps101
  go_wp2_with (first | ((with_reducible refine gate_dst (N := 1) rfl ?_); (try (refine gate_guard (by rfl) ?_; dsimp only)); refine boxS_ 1 #[.int .i64 a0_0, .bool a0_1, .bool a0_2, .int .i64 a0_3, .string a0_4, .int .i64 a0_5, .slice A0_6 l0_6.length c0_6, .slice A0_7 l0_7.length c0_7] 62 (fun gb895 hg w101 hbox hb => ?_); have BK895 := a0_ (hbox); have GW895 := a0_ (gw_ hg : w.heap.size ≤ gb895); replace HB := a0_ (below_step bq0_ hb); have GE895 := GW895; clear hb hbox hg; obtain ⟨_, _, _, _, _, _, _, _, _, _, _, _, _, _, _, _⟩ := bk8_ BK895.out) | ((with_reducible refine gt_ 102 rfl ?_); refine gs_ 5 Tryz.func102 #[.int .i64 a0_0, .int .i64 0, .int .i64 65535] ?_; (with_reducible refine (spec_l1In.calls a0_0 0 65535 true _ A2.out).mono ?_); rintro e w' ⟨rfl, ⟨nd, rfl⟩⟩; refine ⟨_, rfl, ?_⟩) | ((with_reducible refine gate_dst (N := 8) rfl ?_); (try (refine gate_guard (by rfl) ?_; dsimp only)); refine Kd.R_lit (Kd.int .i64) _ 3 ?hg (N := 8) ?hd (xs := ([0, 1, 3, 5] : List Int)) (inner := [.int .i64 0, .int .i64 1, .int .i64 3, .int .i64 5]) (ok := fun _ => True) (okp := fun _ => True) ?hr ?hp (fun _ hk => hk) trivial (Below.refl _ _) (Nat.le_refl _) (by simp) ?_; (case hd => rfl); (case hg => rfl); (case hr => first | (go_simp; done) | (go_simp; rfl)); (case hp => exact (Reps.one (show Kd.M (Kd.int .i64) _ _ _ 0 [.int .i64 0] from rfl) (Reps.one (show Kd.M (Kd.int .i64) _ _ _ 1 [.int .i64 1] from rfl) (Reps.one (show Kd.M (Kd.int .i64) _ _ _ 3 [.int .i64 3] from rfl) (Reps.one (show Kd.M (Kd.int .i64) _ _ _ 5 [.int .i64 5] from rfl) (Reps.none _ _)))))); intro v898 w103 ho104 hb hg_ hnew_; clear hg_ hnew_; (first | rw [← Ny897.out] at ho104 | (simp only [Int.reduceToNat] at ho104; rw [← Ny897.out] at ho104)); have HO899 := a0_ (Kd.R_lower ho104 (below_size bq1_)); replace BK895 := a0_ (bkB_ BK895 hb); replace HB := a0_ (below_step bq1_ hb); clear hb ho104; obtain ⟨_, _, _, _, _, _, _, _, _, _, _, _, _, _, _, _⟩ := bk8_ BK895.out; obtain ⟨Ao106, co106, eo106⟩ := Kd.R_slice HO899.out; subst eo106) | (go_at_call 156; (with_reducible refine (spec_l1Has.calls k _ _ y897 a0_3 true _ ?side1 ?side2 A4.out).mono ?_); (case side1 => exact kD_ (Kd.R_reads' HO899.out).2.2); (case side2 => exact (Kd.R_reads' HO899.out).2.1); rintro e w' ⟨rfl, ⟨nd, rfl⟩⟩) | (go_at_call 127; (with_reducible refine (spec_GoodName.calls k a0_4 true _ A6.out).mono ?_); rintro e w107 ⟨rfl, hb⟩; replace HO899 := a0_ (Kd.R_below (kR_ HO899.out) hb); replace BK895 := a0_ (bkB_ BK895 hb); replace HB := a0_ (below_step bq1_ hb); clear hb; obtain ⟨_, _, _, _, _, _, _, _, _, _, _, _, _, _, _, _⟩ := bk8_ BK895.out) | (go_at_call 157; (with_reducible refine (spec_l3Type.calls k a0_5 true _ A8.out).mono ?_); rintro e w109 ⟨rfl, hb⟩; replace HO899 := a0_ (Kd.R_below (kR_ HO899.out) hb); replace BK895 := a0_ (bkB_ BK895 hb); replace HB := a0_ (below_step bq1_ hb); clear hb; obtain ⟨_, _, _, _, _, _, _, _, _, _, _, _, _, _, _, _⟩ := bk8_ BK895.out) | (go_at_call 158; (with_reducible refine (spec_l4Records.calls k _ _ l0_6 false _ ?side1 ?side2 A10.out).mono ?_); (case side1 => exact kC_ HR0_6.out HB.out); (case side2 => exact HC0_6.out); rintro e w111 ⟨rfl, hb⟩; replace HO899 := a0_ (Kd.R_below (kR_ HO899.out) hb); replace BK895 := a0_ (bkB_ BK895 hb); replace HB := a0_ (below_step bq1_ hb); clear hb))
  go_ret
  exact ⟨rr_, bq1_⟩
 subst c11
 rw [if_pos rfl] at H
 obtain ⟨t904, A12, H⟩ := ob_ H
 by_cases c13 : t904 = true
 case neg =>
  replace c13 := Bool.eq_false_iff.mpr c13
  subst c13
  rw [if_neg ff_] at H
  obtain rfl := Option.some.inj H
  go_enter Tryz.func101, Tryz.ntmps101
  go_wp2_with (first | ((with_reducible refine gate_dst (N := 1) rfl ?_); (try (refine gate_guard (by rfl) ?_; dsimp only)); refine boxS_ 1 #[.int .i64 a0_0, .bool a0_1, .bool a0_2, .int .i64 a0_3, .string a0_4, .int .i64 a0_5, .slice A0_6 l0_6.length c0_6, .slice A0_7 l0_7.length c0_7] 62 (fun gb895 hg w88 hbox hb => ?_); have BK895 := a0_ (hbox); have GW895 := a0_ (gw_ hg : w.heap.size ≤ gb895); replace HB := a0_ (below_step bq0_ hb); have GE895 := GW895; clear hb hbox hg; obtain ⟨_, _, _, _, _, _, _, _, _, _, _, _, _, _, _, _⟩ := bk8_ BK895.out) | ((with_reducible refine gt_ 102 rfl ?_); refine gs_ 5 Tryz.func102 #[.int .i64 a0_0, .int .i64 0, .int .i64 65535] ?_; (with_reducible refine (spec_l1In.calls a0_0 0 65535 true _ A2.out).mono ?_); rintro e w' ⟨rfl, ⟨nd, rfl⟩⟩; refine ⟨_, rfl, ?_⟩) | ((with_reducible refine gate_dst (N := 8) rfl ?_); (try (refine gate_guard (by rfl) ?_; dsimp only)); refine Kd.R_lit (Kd.int .i64) _ 3 ?hg (N := 8) ?hd (xs := ([0, 1, 3, 5] : List Int)) (inner := [.int .i64 0, .int .i64 1, .int .i64 3, .int .i64 5]) (ok := fun _ => True) (okp := fun _ => True) ?hr ?hp (fun _ hk => hk) trivial (Below.refl _ _) (Nat.le_refl _) (by simp) ?_; (case hd => rfl); (case hg => rfl); (case hr => first | (go_simp; done) | (go_simp; rfl)); (case hp => exact (Reps.one (show Kd.M (Kd.int .i64) _ _ _ 0 [.int .i64 0] from rfl) (Reps.one (show Kd.M (Kd.int .i64) _ _ _ 1 [.int .i64 1] from rfl) (Reps.one (show Kd.M (Kd.int .i64) _ _ _ 3 [.int .i64 3] from rfl) (Reps.one (show Kd.M (Kd.int .i64) _ _ _ 5 [.int .i64 5] from rfl) (Reps.none _ _)))))); intro v898 w90 ho91 hb hg_ hnew_; clear hg_ hnew_; (first | rw [← Ny897.out] at ho91 | (simp only [Int.reduceToNat] at ho91; rw [← Ny897.out] at ho91)); have HO899 := a0_ (Kd.R_lower ho91 (below_size bq1_)); replace BK895 := a0_ (bkB_ BK895 hb); replace HB := a0_ (below_step bq1_ hb); clear hb ho91; obtain ⟨_, _, _, _, _, _, _, _, _, _, _, _, _, _, _, _⟩ := bk8_ BK895.out; obtain ⟨Ao93, co93, eo93⟩ := Kd.R_slice HO899.out; subst eo93) | (go_at_call 156; (with_reducible refine (spec_l1Has.calls k _ _ y897 a0_3 true _ ?side1 ?side2 A4.out).mono ?_); (case side1 => exact kD_ (Kd.R_reads' HO899.out).2.2); (case side2 => exact (Kd.R_reads' HO899.out).2.1); rintro e w' ⟨rfl, ⟨nd, rfl⟩⟩) | (go_at_call 127; (with_reducible refine (spec_GoodName.calls k a0_4 true _ A6.out).mono ?_); rintro e w94 ⟨rfl, hb⟩; replace HO899 := a0_ (Kd.R_below (kR_ HO899.out) hb); replace BK895 := a0_ (bkB_ BK895 hb); replace HB := a0_ (below_step bq1_ hb); clear hb; obtain ⟨_, _, _, _, _, _, _, _, _, _, _, _, _, _, _, _⟩ := bk8_ BK895.out) | (go_at_call 157; (with_reducible refine (spec_l3Type.calls k a0_5 true _ A8.out).mono ?_); rintro e w96 ⟨rfl, hb⟩; replace HO899 := a0_ (Kd.R_below (kR_ HO899.out) hb); replace BK895 := a0_ (bkB_ BK895 hb); replace HB := a0_ (below_step bq1_ hb); clear hb; obtain ⟨_, _, _, _, _, _, _, _, _, _, _, _, _, _, _, _⟩ := bk8_ BK895.out) | (go_at_call 158; (with_reducible refine (spec_l4Records.calls k _ _ l0_6 true _ ?side1 ?side2 A10.out).mono ?_); (case side1 => exact kC_ HR0_6.out HB.out); (case side2 => exact HC0_6.out); rintro e w98 ⟨rfl, hb⟩; replace HO899 := a0_ (Kd.R_below (kR_ HO899.out) hb); replace BK895 := a0_ (bkB_ BK895 hb); replace HB := a0_ (below_step bq1_ hb); clear hb; obtain ⟨_, _, _, _, _, _, _, _, _, _, _, _, _, _, _, _⟩ := bk8_ BK895.out) | (go_at_call 158; (with_reducible refine (spec_l4Records.calls k _ _ l0_7 false _ ?side1 ?side2 A12.out).mono ?_); (case side1 => exact kC_ HR0_7.out HB.out); (case side2 => exact HC0_7.out); rintro e w100 ⟨rfl, hb⟩; replace HO899 := a0_ (Kd.R_below (kR_ HO899.out) hb); replace BK895 := a0_ (bkB_ BK895 hb); replace HB := a0_ (below_step bq1_ hb); clear hb))
  go_ret
  exact ⟨rr_, bq1_⟩
 subst c13
 rw [if_pos rfl] at H
 by_cases c14 : a0_1 = true
 case pos =>
  subst c14
  rw [if_pos rfl] at H
  obtain rfl := Option.some.inj H
  go_enter Tryz.func101, Tryz.ntmps101
  go_wp2_with (first | ((with_reducible refine gate_dst (N := 1) rfl ?_); (try (refine gate_guard (by rfl) ?_; dsimp only)); refine boxS_ 1 #[.int .i64 a0_0, .bool true, .bool a0_2, .int .i64 a0_3, .string a0_4, .int .i64 a0_5, .slice A0_6 l0_6.length c0_6, .slice A0_7 l0_7.length c0_7] 62 (fun gb895 hg w15 hbox hb => ?_); have BK895 := a0_ (hbox); have GW895 := a0_ (gw_ hg : w.heap.size ≤ gb895); replace HB := a0_ (below_step bq0_ hb); have GE895 := GW895; clear hb hbox hg; obtain ⟨_, _, _, _, _, _, _, _, _, _, _, _, _, _, _, _⟩ := bk8_ BK895.out) | ((with_reducible refine gt_ 102 rfl ?_); refine gs_ 5 Tryz.func102 #[.int .i64 a0_0, .int .i64 0, .int .i64 65535] ?_; (with_reducible refine (spec_l1In.calls a0_0 0 65535 true _ A2.out).mono ?_); rintro e w' ⟨rfl, ⟨nd, rfl⟩⟩; refine ⟨_, rfl, ?_⟩) | ((with_reducible refine gate_dst (N := 8) rfl ?_); (try (refine gate_guard (by rfl) ?_; dsimp only)); refine Kd.R_lit (Kd.int .i64) _ 3 ?hg (N := 8) ?hd (xs := ([0, 1, 3, 5] : List Int)) (inner := [.int .i64 0, .int .i64 1, .int .i64 3, .int .i64 5]) (ok := fun _ => True) (okp := fun _ => True) ?hr ?hp (fun _ hk => hk) trivial (Below.refl _ _) (Nat.le_refl _) (by simp) ?_; (case hd => rfl); (case hg => rfl); (case hr => first | (go_simp; done) | (go_simp; rfl)); (case hp => exact (Reps.one (show Kd.M (Kd.int .i64) _ _ _ 0 [.int .i64 0] from rfl) (Reps.one (show Kd.M (Kd.int .i64) _ _ _ 1 [.int .i64 1] from rfl) (Reps.one (show Kd.M (Kd.int .i64) _ _ _ 3 [.int .i64 3] from rfl) (Reps.one (show Kd.M (Kd.int .i64) _ _ _ 5 [.int .i64 5] from rfl) (Reps.none _ _)))))); intro v898 w17 ho18 hb hg_ hnew_; clear hg_ hnew_; (first | rw [← Ny897.out] at ho18 | (simp only [Int.reduceToNat] at ho18; rw [← Ny897.out] at ho18)); have HO899 := a0_ (Kd.R_lower ho18 (below_size bq1_)); replace BK895 := a0_ (bkB_ BK895 hb); replace HB := a0_ (below_step bq1_ hb); clear hb ho18; obtain ⟨_, _, _, _, _, _, _, _, _, _, _, _, _, _, _, _⟩ := bk8_ BK895.out; obtain ⟨Ao20, co20, eo20⟩ := Kd.R_slice HO899.out; subst eo20) | (go_at_call 156; (with_reducible refine (spec_l1Has.calls k _ _ y897 a0_3 true _ ?side1 ?side2 A4.out).mono ?_); (case side1 => exact kD_ (Kd.R_reads' HO899.out).2.2); (case side2 => exact (Kd.R_reads' HO899.out).2.1); rintro e w' ⟨rfl, ⟨nd, rfl⟩⟩) | (go_at_call 127; (with_reducible refine (spec_GoodName.calls k a0_4 true _ A6.out).mono ?_); rintro e w21 ⟨rfl, hb⟩; replace HO899 := a0_ (Kd.R_below (kR_ HO899.out) hb); replace BK895 := a0_ (bkB_ BK895 hb); replace HB := a0_ (below_step bq1_ hb); clear hb; obtain ⟨_, _, _, _, _, _, _, _, _, _, _, _, _, _, _, _⟩ := bk8_ BK895.out) | (go_at_call 157; (with_reducible refine (spec_l3Type.calls k a0_5 true _ A8.out).mono ?_); rintro e w23 ⟨rfl, hb⟩; replace HO899 := a0_ (Kd.R_below (kR_ HO899.out) hb); replace BK895 := a0_ (bkB_ BK895 hb); replace HB := a0_ (below_step bq1_ hb); clear hb; obtain ⟨_, _, _, _, _, _, _, _, _, _, _, _, _, _, _, _⟩ := bk8_ BK895.out) | (go_at_call 158; (with_reducible refine (spec_l4Records.calls k _ _ l0_6 true _ ?side1 ?side2 A10.out).mono ?_); (case side1 => exact kC_ HR0_6.out HB.out); (case side2 => exact HC0_6.out); rintro e w25 ⟨rfl, hb⟩; replace HO899 := a0_ (Kd.R_below (kR_ HO899.out) hb); replace BK895 := a0_ (bkB_ BK895 hb); replace HB := a0_ (below_step bq1_ hb); clear hb; obtain ⟨_, _, _, _, _, _, _, _, _, _, _, _, _, _, _, _⟩ := bk8_ BK895.out) | (go_at_call 158; (with_reducible refine (spec_l4Records.calls k _ _ l0_7 true _ ?side1 ?side2 A12.out).mono ?_); (case side1 => exact kC_ HR0_7.out HB.out); (case side2 => exact HC0_7.out); rintro e w27 ⟨rfl, hb⟩; replace HO899 := a0_ (Kd.R_below (kR_ HO899.out) hb); replace BK895 := a0_ (bkB_ BK895 hb); replace HB := a0_ (below_step bq1_ hb); clear hb; obtain ⟨_, _, _, _, _, _, _, _, _, _, _, _, _, _, _, _⟩ := bk8_ BK895.out))
  go_ret
  exact ⟨rr_, bq1_⟩
 replace c14 := Bool.eq_false_iff.mpr c14
 subst c14
 rw [if_neg ff_] at H
 by_cases c29 : a0_2 = true
 case pos =>
  subst c29
  rw [if_pos rfl] at H
  obtain rfl := Option.some.inj H
  go_enter Tryz.func101, Tryz.ntmps101
  go_wp2_with (first | ((with_reducible refine gate_dst (N := 1) rfl ?_); (try (refine gate_guard (by rfl) ?_; dsimp only)); refine boxS_ 1 #[.int .i64 a0_0, .bool false, .bool true, .int .i64 a0_3, .string a0_4, .int .i64 a0_5, .slice A0_6 l0_6.length c0_6, .slice A0_7 l0_7.length c0_7] 62 (fun gb895 hg w30 hbox hb => ?_); have BK895 := a0_ (hbox); have GW895 := a0_ (gw_ hg : w.heap.size ≤ gb895); replace HB := a0_ (below_step bq0_ hb); have GE895 := GW895; clear hb hbox hg; obtain ⟨_, _, _, _, _, _, _, _, _, _, _, _, _, _, _, _⟩ := bk8_ BK895.out) | ((with_reducible refine gt_ 102 rfl ?_); refine gs_ 5 Tryz.func102 #[.int .i64 a0_0, .int .i64 0, .int .i64 65535] ?_; (with_reducible refine (spec_l1In.calls a0_0 0 65535 true _ A2.out).mono ?_); rintro e w' ⟨rfl, ⟨nd, rfl⟩⟩; refine ⟨_, rfl, ?_⟩) | ((with_reducible refine gate_dst (N := 8) rfl ?_); (try (refine gate_guard (by rfl) ?_; dsimp only)); refine Kd.R_lit (Kd.int .i64) _ 3 ?hg (N := 8) ?hd (xs := ([0, 1, 3, 5] : List Int)) (inner := [.int .i64 0, .int .i64 1, .int .i64 3, .int .i64 5]) (ok := fun _ => True) (okp := fun _ => True) ?hr ?hp (fun _ hk => hk) trivial (Below.refl _ _) (Nat.le_refl _) (by simp) ?_; (case hd => rfl); (case hg => rfl); (case hr => first | (go_simp; done) | (go_simp; rfl)); (case hp => exact (Reps.one (show Kd.M (Kd.int .i64) _ _ _ 0 [.int .i64 0] from rfl) (Reps.one (show Kd.M (Kd.int .i64) _ _ _ 1 [.int .i64 1] from rfl) (Reps.one (show Kd.M (Kd.int .i64) _ _ _ 3 [.int .i64 3] from rfl) (Reps.one (show Kd.M (Kd.int .i64) _ _ _ 5 [.int .i64 5] from rfl) (Reps.none _ _)))))); intro v898 w32 ho33 hb hg_ hnew_; clear hg_ hnew_; (first | rw [← Ny897.out] at ho33 | (simp only [Int.reduceToNat] at ho33; rw [← Ny897.out] at ho33)); have HO899 := a0_ (Kd.R_lower ho33 (below_size bq1_)); replace BK895 := a0_ (bkB_ BK895 hb); replace HB := a0_ (below_step bq1_ hb); clear hb ho33; obtain ⟨_, _, _, _, _, _, _, _, _, _, _, _, _, _, _, _⟩ := bk8_ BK895.out; obtain ⟨Ao35, co35, eo35⟩ := Kd.R_slice HO899.out; subst eo35) | (go_at_call 156; (with_reducible refine (spec_l1Has.calls k _ _ y897 a0_3 true _ ?side1 ?side2 A4.out).mono ?_); (case side1 => exact kD_ (Kd.R_reads' HO899.out).2.2); (case side2 => exact (Kd.R_reads' HO899.out).2.1); rintro e w' ⟨rfl, ⟨nd, rfl⟩⟩) | (go_at_call 127; (with_reducible refine (spec_GoodName.calls k a0_4 true _ A6.out).mono ?_); rintro e w36 ⟨rfl, hb⟩; replace HO899 := a0_ (Kd.R_below (kR_ HO899.out) hb); replace BK895 := a0_ (bkB_ BK895 hb); replace HB := a0_ (below_step bq1_ hb); clear hb; obtain ⟨_, _, _, _, _, _, _, _, _, _, _, _, _, _, _, _⟩ := bk8_ BK895.out) | (go_at_call 157; (with_reducible refine (spec_l3Type.calls k a0_5 true _ A8.out).mono ?_); rintro e w38 ⟨rfl, hb⟩; replace HO899 := a0_ (Kd.R_below (kR_ HO899.out) hb); replace BK895 := a0_ (bkB_ BK895 hb); replace HB := a0_ (below_step bq1_ hb); clear hb; obtain ⟨_, _, _, _, _, _, _, _, _, _, _, _, _, _, _, _⟩ := bk8_ BK895.out) | (go_at_call 158; (with_reducible refine (spec_l4Records.calls k _ _ l0_6 true _ ?side1 ?side2 A10.out).mono ?_); (case side1 => exact kC_ HR0_6.out HB.out); (case side2 => exact HC0_6.out); rintro e w40 ⟨rfl, hb⟩; replace HO899 := a0_ (Kd.R_below (kR_ HO899.out) hb); replace BK895 := a0_ (bkB_ BK895 hb); replace HB := a0_ (below_step bq1_ hb); clear hb; obtain ⟨_, _, _, _, _, _, _, _, _, _, _, _, _, _, _, _⟩ := bk8_ BK895.out) | (go_at_call 158; (with_reducible refine (spec_l4Records.calls k _ _ l0_7 true _ ?side1 ?side2 A12.out).mono ?_); (case side1 => exact kC_ HR0_7.out HB.out); (case side2 => exact HC0_7.out); rintro e w42 ⟨rfl, hb⟩; replace HO899 := a0_ (Kd.R_below (kR_ HO899.out) hb); replace BK895 := a0_ (bkB_ BK895 hb); replace HB := a0_ (below_step bq1_ hb); clear hb; obtain ⟨_, _, _, _, _, _, _, _, _, _, _, _, _, _, _, _⟩ := bk8_ BK895.out))
  go_ret
  exact ⟨rr_, bq1_⟩
 replace c29 := Bool.eq_false_iff.mpr c29
 subst c29
 rw [if_neg ff_] at H
 by_cases c44 : a0_3 = 0
 case neg =>
  rw [if_neg c44] at H
  have c44b0 := beq_eq_false_iff_ne.mpr c44
  have c44b1 := bne_iff_ne.mpr c44
  obtain rfl := Option.some.inj H
  go_enter Tryz.func101, Tryz.ntmps101
  go_wp2_with (first | ((with_reducible refine gate_dst (N := 1) rfl ?_); (try (refine gate_guard (by rfl) ?_; dsimp only)); refine boxS_ 1 #[.int .i64 a0_0, .bool false, .bool false, .int .i64 a0_3, .string a0_4, .int .i64 a0_5, .slice A0_6 l0_6.length c0_6, .slice A0_7 l0_7.length c0_7] 62 (fun gb895 hg w74 hbox hb => ?_); have BK895 := a0_ (hbox); have GW895 := a0_ (gw_ hg : w.heap.size ≤ gb895); replace HB := a0_ (below_step bq0_ hb); have GE895 := GW895; clear hb hbox hg; obtain ⟨_, _, _, _, _, _, _, _, _, _, _, _, _, _, _, _⟩ := bk8_ BK895.out) | ((with_reducible refine gt_ 102 rfl ?_); refine gs_ 5 Tryz.func102 #[.int .i64 a0_0, .int .i64 0, .int .i64 65535] ?_; (with_reducible refine (spec_l1In.calls a0_0 0 65535 true _ A2.out).mono ?_); rintro e w' ⟨rfl, ⟨nd, rfl⟩⟩; refine ⟨_, rfl, ?_⟩) | ((with_reducible refine gate_dst (N := 8) rfl ?_); (try (refine gate_guard (by rfl) ?_; dsimp only)); refine Kd.R_lit (Kd.int .i64) _ 3 ?hg (N := 8) ?hd (xs := ([0, 1, 3, 5] : List Int)) (inner := [.int .i64 0, .int .i64 1, .int .i64 3, .int .i64 5]) (ok := fun _ => True) (okp := fun _ => True) ?hr ?hp (fun _ hk => hk) trivial (Below.refl _ _) (Nat.le_refl _) (by simp) ?_; (case hd => rfl); (case hg => rfl); (case hr => first | (go_simp; done) | (go_simp; rfl)); (case hp => exact (Reps.one (show Kd.M (Kd.int .i64) _ _ _ 0 [.int .i64 0] from rfl) (Reps.one (show Kd.M (Kd.int .i64) _ _ _ 1 [.int .i64 1] from rfl) (Reps.one (show Kd.M (Kd.int .i64) _ _ _ 3 [.int .i64 3] from rfl) (Reps.one (show Kd.M (Kd.int .i64) _ _ _ 5 [.int .i64 5] from rfl) (Reps.none _ _)))))); intro v898 w76 ho77 hb hg_ hnew_; clear hg_ hnew_; (first | rw [← Ny897.out] at ho77 | (simp only [Int.reduceToNat] at ho77; rw [← Ny897.out] at ho77)); have HO899 := a0_ (Kd.R_lower ho77 (below_size bq1_)); replace BK895 := a0_ (bkB_ BK895 hb); replace HB := a0_ (below_step bq1_ hb); clear hb ho77; obtain ⟨_, _, _, _, _, _, _, _, _, _, _, _, _, _, _, _⟩ := bk8_ BK895.out; obtain ⟨Ao79, co79, eo79⟩ := Kd.R_slice HO899.out; subst eo79) | (go_at_call 156; (with_reducible refine (spec_l1Has.calls k _ _ y897 a0_3 true _ ?side1 ?side2 A4.out).mono ?_); (case side1 => exact kD_ (Kd.R_reads' HO899.out).2.2); (case side2 => exact (Kd.R_reads' HO899.out).2.1); rintro e w' ⟨rfl, ⟨nd, rfl⟩⟩) | (go_at_call 127; (with_reducible refine (spec_GoodName.calls k a0_4 true _ A6.out).mono ?_); rintro e w80 ⟨rfl, hb⟩; replace HO899 := a0_ (Kd.R_below (kR_ HO899.out) hb); replace BK895 := a0_ (bkB_ BK895 hb); replace HB := a0_ (below_step bq1_ hb); clear hb; obtain ⟨_, _, _, _, _, _, _, _, _, _, _, _, _, _, _, _⟩ := bk8_ BK895.out) | (go_at_call 157; (with_reducible refine (spec_l3Type.calls k a0_5 true _ A8.out).mono ?_); rintro e w82 ⟨rfl, hb⟩; replace HO899 := a0_ (Kd.R_below (kR_ HO899.out) hb); replace BK895 := a0_ (bkB_ BK895 hb); replace HB := a0_ (below_step bq1_ hb); clear hb; obtain ⟨_, _, _, _, _, _, _, _, _, _, _, _, _, _, _, _⟩ := bk8_ BK895.out) | (go_at_call 158; (with_reducible refine (spec_l4Records.calls k _ _ l0_6 true _ ?side1 ?side2 A10.out).mono ?_); (case side1 => exact kC_ HR0_6.out HB.out); (case side2 => exact HC0_6.out); rintro e w84 ⟨rfl, hb⟩; replace HO899 := a0_ (Kd.R_below (kR_ HO899.out) hb); replace BK895 := a0_ (bkB_ BK895 hb); replace HB := a0_ (below_step bq1_ hb); clear hb; obtain ⟨_, _, _, _, _, _, _, _, _, _, _, _, _, _, _, _⟩ := bk8_ BK895.out) | (go_at_call 158; (with_reducible refine (spec_l4Records.calls k _ _ l0_7 true _ ?side1 ?side2 A12.out).mono ?_); (case side1 => exact kC_ HR0_7.out HB.out); (case side2 => exact HC0_7.out); rintro e w86 ⟨rfl, hb⟩; replace HO899 := a0_ (Kd.R_below (kR_ HO899.out) hb); replace BK895 := a0_ (bkB_ BK895 hb); replace HB := a0_ (below_step bq1_ hb); clear hb; obtain ⟨_, _, _, _, _, _, _, _, _, _, _, _, _, _, _, _⟩ := bk8_ BK895.out))
  go_ret
  exact ⟨rr_, bq1_⟩
 rw [if_pos c44] at H
 have c44b0 := beq_iff_eq.mpr c44
 have c44b1 := bne_eq_false_iff_eq.mpr c44
 clear c44
 by_cases c45 : (l0_6.length : Int) = 0
 case neg =>
  rw [if_neg c45] at H
  have c45b0 := beq_eq_false_iff_ne.mpr c45
  have c45b1 := bne_iff_ne.mpr c45
  have c45b2 : ¬ (l0_6 = []) := fun h_ => c45 (by rw [h_]; rfl)
  obtain rfl := Option.some.inj H
  go_enter Tryz.func101, Tryz.ntmps101
  go_wp2_with (first | ((with_reducible refine gate_dst (N := 1) rfl ?_); (try (refine gate_guard (by rfl) ?_; dsimp only)); refine boxS_ 1 #[.int .i64 a0_0, .bool false, .bool false, .int .i64 a0_3, .string a0_4, .int .i64 a0_5, .slice A0_6 l0_6.length c0_6, .slice A0_7 l0_7.length c0_7] 62 (fun gb895 hg w60 hbox hb => ?_); have BK895 := a0_ (hbox); have GW895 := a0_ (gw_ hg : w.heap.size ≤ gb895); replace HB := a0_ (below_step bq0_ hb); have GE895 := GW895; clear hb hbox hg; obtain ⟨_, _, _, _, _, _, _, _, _, _, _, _, _, _, _, _⟩ := bk8_ BK895.out) | ((with_reducible refine gt_ 102 rfl ?_); refine gs_ 5 Tryz.func102 #[.int .i64 a0_0, .int .i64 0, .int .i64 65535] ?_; (with_reducible refine (spec_l1In.calls a0_0 0 65535 true _ A2.out).mono ?_); rintro e w' ⟨rfl, ⟨nd, rfl⟩⟩; refine ⟨_, rfl, ?_⟩) | ((with_reducible refine gate_dst (N := 8) rfl ?_); (try (refine gate_guard (by rfl) ?_; dsimp only)); refine Kd.R_lit (Kd.int .i64) _ 3 ?hg (N := 8) ?hd (xs := ([0, 1, 3, 5] : List Int)) (inner := [.int .i64 0, .int .i64 1, .int .i64 3, .int .i64 5]) (ok := fun _ => True) (okp := fun _ => True) ?hr ?hp (fun _ hk => hk) trivial (Below.refl _ _) (Nat.le_refl _) (by simp) ?_; (case hd => rfl); (case hg => rfl); (case hr => first | (go_simp; done) | (go_simp; rfl)); (case hp => exact (Reps.one (show Kd.M (Kd.int .i64) _ _ _ 0 [.int .i64 0] from rfl) (Reps.one (show Kd.M (Kd.int .i64) _ _ _ 1 [.int .i64 1] from rfl) (Reps.one (show Kd.M (Kd.int .i64) _ _ _ 3 [.int .i64 3] from rfl) (Reps.one (show Kd.M (Kd.int .i64) _ _ _ 5 [.int .i64 5] from rfl) (Reps.none _ _)))))); intro v898 w62 ho63 hb hg_ hnew_; clear hg_ hnew_; (first | rw [← Ny897.out] at ho63 | (simp only [Int.reduceToNat] at ho63; rw [← Ny897.out] at ho63)); have HO899 := a0_ (Kd.R_lower ho63 (below_size bq1_)); replace BK895 := a0_ (bkB_ BK895 hb); replace HB := a0_ (below_step bq1_ hb); clear hb ho63; obtain ⟨_, _, _, _, _, _, _, _, _, _, _, _, _, _, _, _⟩ := bk8_ BK895.out; obtain ⟨Ao65, co65, eo65⟩ := Kd.R_slice HO899.out; subst eo65) | (go_at_call 156; (with_reducible refine (spec_l1Has.calls k _ _ y897 a0_3 true _ ?side1 ?side2 A4.out).mono ?_); (case side1 => exact kD_ (Kd.R_reads' HO899.out).2.2); (case side2 => exact (Kd.R_reads' HO899.out).2.1); rintro e w' ⟨rfl, ⟨nd, rfl⟩⟩) | (go_at_call 127; (with_reducible refine (spec_GoodName.calls k a0_4 true _ A6.out).mono ?_); rintro e w66 ⟨rfl, hb⟩; replace HO899 := a0_ (Kd.R_below (kR_ HO899.out) hb); replace BK895 := a0_ (bkB_ BK895 hb); replace HB := a0_ (below_step bq1_ hb); clear hb; obtain ⟨_, _, _, _, _, _, _, _, _, _, _, _, _, _, _, _⟩ := bk8_ BK895.out) | (go_at_call 157; (with_reducible refine (spec_l3Type.calls k a0_5 true _ A8.out).mono ?_); rintro e w68 ⟨rfl, hb⟩; replace HO899 := a0_ (Kd.R_below (kR_ HO899.out) hb); replace BK895 := a0_ (bkB_ BK895 hb); replace HB := a0_ (below_step bq1_ hb); clear hb; obtain ⟨_, _, _, _, _, _, _, _, _, _, _, _, _, _, _, _⟩ := bk8_ BK895.out) | (go_at_call 158; (with_reducible refine (spec_l4Records.calls k _ _ l0_6 true _ ?side1 ?side2 A10.out).mono ?_); (case side1 => exact kC_ HR0_6.out HB.out); (case side2 => exact HC0_6.out); rintro e w70 ⟨rfl, hb⟩; replace HO899 := a0_ (Kd.R_below (kR_ HO899.out) hb); replace BK895 := a0_ (bkB_ BK895 hb); replace HB := a0_ (below_step bq1_ hb); clear hb; obtain ⟨_, _, _, _, _, _, _, _, _, _, _, _, _, _, _, _⟩ := bk8_ BK895.out) | (go_at_call 158; (with_reducible refine (spec_l4Records.calls k _ _ l0_7 true _ ?side1 ?side2 A12.out).mono ?_); (case side1 => exact kC_ HR0_7.out HB.out); (case side2 => exact HC0_7.out); rintro e w72 ⟨rfl, hb⟩; replace HO899 := a0_ (Kd.R_below (kR_ HO899.out) hb); replace BK895 := a0_ (bkB_ BK895 hb); replace HB := a0_ (below_step bq1_ hb); clear hb; obtain ⟨_, _, _, _, _, _, _, _, _, _, _, _, _, _, _, _⟩ := bk8_ BK895.out))
  go_ret
  exact ⟨rr_, bq1_⟩
 rw [if_pos c45] at H
 have c45b0 := beq_iff_eq.mpr c45
 have c45b1 := bne_eq_false_iff_eq.mpr c45
 clear c45
 obtain rfl := Option.some.inj H
 go_enter Tryz.func101, Tryz.ntmps101
 go_wp2_with (first | ((with_reducible refine gate_dst (N := 1) rfl ?_); (try (refine gate_guard (by rfl) ?_; dsimp only)); refine boxS_ 1 #[.int .i64 a0_0, .bool false, .bool false, .int .i64 a0_3, .string a0_4, .int .i64 a0_5, .slice A0_6 l0_6.length c0_6, .slice A0_7 l0_7.length c0_7] 62 (fun gb895 hg w46 hbox hb => ?_); have BK895 := a0_ (hbox); have GW895 := a0_ (gw_ hg : w.heap.size ≤ gb895); replace HB := a0_ (below_step bq0_ hb); have GE895 := GW895; clear hb hbox hg; obtain ⟨_, _, _, _, _, _, _, _, _, _, _, _, _, _, _, _⟩ := bk8_ BK895.out) | ((with_reducible refine gt_ 102 rfl ?_); refine gs_ 5 Tryz.func102 #[.int .i64 a0_0, .int .i64 0, .int .i64 65535] ?_; (with_reducible refine (spec_l1In.calls a0_0 0 65535 true _ A2.out).mono ?_); rintro e w' ⟨rfl, ⟨nd, rfl⟩⟩; refine ⟨_, rfl, ?_⟩) | ((with_reducible refine gate_dst (N := 8) rfl ?_); (try (refine gate_guard (by rfl) ?_; dsimp only)); refine Kd.R_lit (Kd.int .i64) _ 3 ?hg (N := 8) ?hd (xs := ([0, 1, 3, 5] : List Int)) (inner := [.int .i64 0, .int .i64 1, .int .i64 3, .int .i64 5]) (ok := fun _ => True) (okp := fun _ => True) ?hr ?hp (fun _ hk => hk) trivial (Below.refl _ _) (Nat.le_refl _) (by simp) ?_; (case hd => rfl); (case hg => rfl); (case hr => first | (go_simp; done) | (go_simp; rfl)); (case hp => exact (Reps.one (show Kd.M (Kd.int .i64) _ _ _ 0 [.int .i64 0] from rfl) (Reps.one (show Kd.M (Kd.int .i64) _ _ _ 1 [.int .i64 1] from rfl) (Reps.one (show Kd.M (Kd.int .i64) _ _ _ 3 [.int .i64 3] from rfl) (Reps.one (show Kd.M (Kd.int .i64) _ _ _ 5 [.int .i64 5] from rfl) (Reps.none _ _)))))); intro v898 w48 ho49 hb hg_ hnew_; clear hg_ hnew_; (first | rw [← Ny897.out] at ho49 | (simp only [Int.reduceToNat] at ho49; rw [← Ny897.out] at ho49)); have HO899 := a0_ (Kd.R_lower ho49 (below_size bq1_)); replace BK895 := a0_ (bkB_ BK895 hb); replace HB := a0_ (below_step bq1_ hb); clear hb ho49; obtain ⟨_, _, _, _, _, _, _, _, _, _, _, _, _, _, _, _⟩ := bk8_ BK895.out; obtain ⟨Ao51, co51, eo51⟩ := Kd.R_slice HO899.out; subst eo51) | (go_at_call 156; (with_reducible refine (spec_l1Has.calls k _ _ y897 a0_3 true _ ?side1 ?side2 A4.out).mono ?_); (case side1 => exact kD_ (Kd.R_reads' HO899.out).2.2); (case side2 => exact (Kd.R_reads' HO899.out).2.1); rintro e w' ⟨rfl, ⟨nd, rfl⟩⟩) | (go_at_call 127; (with_reducible refine (spec_GoodName.calls k a0_4 true _ A6.out).mono ?_); rintro e w52 ⟨rfl, hb⟩; replace HO899 := a0_ (Kd.R_below (kR_ HO899.out) hb); replace BK895 := a0_ (bkB_ BK895 hb); replace HB := a0_ (below_step bq1_ hb); clear hb; obtain ⟨_, _, _, _, _, _, _, _, _, _, _, _, _, _, _, _⟩ := bk8_ BK895.out) | (go_at_call 157; (with_reducible refine (spec_l3Type.calls k a0_5 true _ A8.out).mono ?_); rintro e w54 ⟨rfl, hb⟩; replace HO899 := a0_ (Kd.R_below (kR_ HO899.out) hb); replace BK895 := a0_ (bkB_ BK895 hb); replace HB := a0_ (below_step bq1_ hb); clear hb; obtain ⟨_, _, _, _, _, _, _, _, _, _, _, _, _, _, _, _⟩ := bk8_ BK895.out) | (go_at_call 158; (with_reducible refine (spec_l4Records.calls k _ _ l0_6 true _ ?side1 ?side2 A10.out).mono ?_); (case side1 => exact kC_ HR0_6.out HB.out); (case side2 => exact HC0_6.out); rintro e w56 ⟨rfl, hb⟩; replace HO899 := a0_ (Kd.R_below (kR_ HO899.out) hb); replace BK895 := a0_ (bkB_ BK895 hb); replace HB := a0_ (below_step bq1_ hb); clear hb; obtain ⟨_, _, _, _, _, _, _, _, _, _, _, _, _, _, _, _⟩ := bk8_ BK895.out) | (go_at_call 158; (with_reducible refine (spec_l4Records.calls k _ _ l0_7 true _ ?side1 ?side2 A12.out).mono ?_); (case side1 => exact kC_ HR0_7.out HB.out); (case side2 => exact HC0_7.out); rintro e w58 ⟨rfl, hb⟩; replace HO899 := a0_ (Kd.R_below (kR_ HO899.out) hb); replace BK895 := a0_ (bkB_ BK895 hb); replace HB := a0_ (below_step bq1_ hb); clear hb; obtain ⟨_, _, _, _, _, _, _, _, _, _, _, _, _, _, _, _⟩ := bk8_ BK895.out))
 go_ret
 exact ⟨rr_, bq1_⟩
end Go.Proofs.YtiegkjimpclmaaaGreatDoor.P
namespace Go.Proofs.YtiegkjimpclmaaaGreatDoor.P
attribute [local go_sem] max2_int min2_int max_two min_two max_three min_three max_four min_four
attribute [-simp] ByteArray.size_extract
mutual
def spec_l2Take.l0 : Nat → ByteArray → Int → List ByteArray → List Int → Int → Int → Option (ByteArray × Int × List Int × Bool)
 | 0, _, _, _, _, _, _ => none
 | k + 1, x0, x1, x8, x9, x10, x11 => if (x8.length : Int) ≤ 8 then (if x1 ≥ (x0.size : Int) then (some ((⟨#[]⟩ : ByteArray), 0, ([] : List Int), false)) else (if 0 ≤ x1 then (if x1 < (x0.size : Int) then (if (wrap64 (bt x0 x1)) ≥ 192 then (if (wrap64 (x1 + 1)) ≥ (x0.size : Int) then (some ((⟨#[]⟩ : ByteArray), 0, ([] : List Int), false)) else (if x11 < 0 then (if 0 ≤ (wrap64 (x1 + 1)) then (if (wrap64 (x1 + 1)) < (x0.size : Int) then (if (wrap64 ((wrap64 ((wrap64 ((wrap64 (bt x0 x1)) - 192)) * 256)) + (wrap64 (bt x0 (wrap64 (x1 + 1)))))) ≥ x10 then (some ((⟨#[]⟩ : ByteArray), 0, ([] : List Int), false)) else (spec_l2Take.l0 k x0 (wrap64 ((wrap64 ((wrap64 ((wrap64 (bt x0 x1)) - 192)) * 256)) + (wrap64 (bt x0 (wrap64 (x1 + 1)))))) x8 x9 (wrap64 ((wrap64 ((wrap64 ((wrap64 (bt x0 x1)) - 192)) * 256)) + (wrap64 (bt x0 (wrap64 (x1 + 1)))))) (wrap64 (x1 + 2)))) else (none)) else (none)) else (if 0 ≤ (wrap64 (x1 + 1)) then (if (wrap64 (x1 + 1)) < (x0.size : Int) then (if (wrap64 ((wrap64 ((wrap64 ((wrap64 (bt x0 x1)) - 192)) * 256)) + (wrap64 (bt x0 (wrap64 (x1 + 1)))))) ≥ x10 then (some ((⟨#[]⟩ : ByteArray), 0, ([] : List Int), false)) else (spec_l2Take.l0 k x0 (wrap64 ((wrap64 ((wrap64 ((wrap64 (bt x0 x1)) - 192)) * 256)) + (wrap64 (bt x0 (wrap64 (x1 + 1)))))) x8 x9 (wrap64 ((wrap64 ((wrap64 ((wrap64 (bt x0 x1)) - 192)) * 256)) + (wrap64 (bt x0 (wrap64 (x1 + 1)))))) x11)) else (none)) else (none)))) else (if (wrap64 (bt x0 x1)) = 0 then (if x11 < 0 then ((spec_l1Join.f k x8).bind fun t125 => ((spec_FoldName.f t125).bind fun bt126 => (some (bt126.1, wrap64 (x1 + 1), x9, bt126.2)))) else ((spec_l1Join.f k x8).bind fun t128 => ((spec_FoldName.f t128).bind fun bt129 => (some (bt129.1, x11, x9, bt129.2))))) else (if (wrap64 (bt x0 x1)) > 20 then (spec_l2Take.j1 k x0 x1 x8 x9 x10 x11 (wrap64 (bt x0 x1)) true) else (spec_l2Take.j1 k x0 x1 x8 x9 x10 x11 (wrap64 (bt x0 x1)) (decide ((wrap64 ((wrap64 (x1 + 1)) + (wrap64 (bt x0 x1)))) > (x0.size : Int))))))) else (none)) else (none))) else (some ((⟨#[]⟩ : ByteArray), 0, ([] : List Int), false))
def spec_l2Take.j1 : Nat → ByteArray → Int → List ByteArray → List Int → Int → Int → Int → Bool → Option (ByteArray × Int × List Int × Bool)
 | 0, _, _, _, _, _, _, _, _ => none
 | k + 1, x0, x1, x8, x9, x10, x11, x12, x79 => if x79 = true then (some ((⟨#[]⟩ : ByteArray), 0, ([] : List Int), false)) else (if x11 < 0 then (if x9.length < 17592186044416 then (spec_l2Take.j2 k x0 x1 x8 (x9 ++ [x1]) x10 x11 x12) else (none)) else (spec_l2Take.j2 k x0 x1 x8 x9 x10 x11 x12))
def spec_l2Take.j2 : Nat → ByteArray → Int → List ByteArray → List Int → Int → Int → Int → Option (ByteArray × Int × List Int × Bool)
 | 0, _, _, _, _, _, _, _ => none
 | k + 1, x0, x1, x8, x9, x10, x11, x12 => if 0 ≤ (wrap64 (x1 + 1)) then (if (wrap64 (x1 + 1)) ≤ (wrap64 ((wrap64 (x1 + 1)) + x12)) then (if (wrap64 ((wrap64 (x1 + 1)) + x12)) ≤ (x0.size : Int) then (spec_l2Take.l1 k x0 x1 x8 x9 x10 x11 x12 (x0.extract ((wrap64 (x1 + 1)) : Int).toNat ((wrap64 ((wrap64 (x1 + 1)) + x12)) : Int).toNat) 0) else (none)) else (none)) else (none)
def spec_l2Take.l1 : Nat → ByteArray → Int → List ByteArray → List Int → Int → Int → Int → ByteArray → Int → Option (ByteArray × Int × List Int × Bool)
 | 0, _, _, _, _, _, _, _, _, _ => none
 | k + 1, x0, x1, x8, x9, x10, x11, x12, x15, x16 => if x16 < x12 then (if 0 ≤ x16 then (if x16 < (x15.size : Int) then (if (bt x15 x16) = 46 then (some ((⟨#[]⟩ : ByteArray), 0, ([] : List Int), false)) else (spec_l2Take.l1 k x0 x1 x8 x9 x10 x11 x12 x15 (wrap64 (x16 + 1)))) else (none)) else (none)) else (if x8.length < 8796093022208 then (spec_l2Take.l0 k x0 (wrap64 (x1 + (wrap64 (1 + x12)))) (x8 ++ [x15]) x9 x10 x11) else (none))
end
def spec_l2Take.f (k : Nat) (a0 : ByteArray) (a1 : Int) : Option (ByteArray × Int × List Int × Bool) := spec_l2Take.l0 k a0 a1 ([] : List ByteArray) ([] : List Int) a1 (-1)
theorem spec_l2Take.mono_l : ∀ k, (∀ y0 y1 y2 y3 y4 y5, LeO (spec_l2Take.l0 k y0 y1 y2 y3 y4 y5) (spec_l2Take.l0 (k + 1) y0 y1 y2 y3 y4 y5)) ∧ (∀ y0 y1 y2 y3 y4 y5 y6 y7, LeO (spec_l2Take.j1 k y0 y1 y2 y3 y4 y5 y6 y7) (spec_l2Take.j1 (k + 1) y0 y1 y2 y3 y4 y5 y6 y7)) ∧ (∀ y0 y1 y2 y3 y4 y5 y6, LeO (spec_l2Take.j2 k y0 y1 y2 y3 y4 y5 y6) (spec_l2Take.j2 (k + 1) y0 y1 y2 y3 y4 y5 y6)) ∧ (∀ y0 y1 y2 y3 y4 y5 y6 y7 y8, LeO (spec_l2Take.l1 k y0 y1 y2 y3 y4 y5 y6 y7 y8) (spec_l2Take.l1 (k + 1) y0 y1 y2 y3 y4 y5 y6 y7 y8))
 | 0 => ⟨fun _ _ _ _ _ _ r h => by simp [spec_l2Take.l0] at h, fun _ _ _ _ _ _ _ _ r h => by simp [spec_l2Take.j1] at h, fun _ _ _ _ _ _ _ r h => by simp [spec_l2Take.j2] at h, fun _ _ _ _ _ _ _ _ _ r h => by simp [spec_l2Take.l1] at h⟩
 | k + 1 => by
  obtain ⟨ih0, ih1, ih2, ih3⟩ := spec_l2Take.mono_l k
  refine ⟨?_, ?_, ?_, ?_⟩
  · intro y0 y1 y2 y3 y4 y5
    unfold spec_l2Take.l0
    repeat' first | (with_reducible first | exact ih0 _ _ _ _ _ _ | exact ih1 _ _ _ _ _ _ _ _ | exact ih2 _ _ _ _ _ _ _ | exact ih3 _ _ _ _ _ _ _ _ _ | exact spec_l1Join.mono _ _ | exact LeO.refl _ | exact LeO.none _ | refine LeO.ite ?_ ?_ | refine LeO.bind ?_ (fun _ => ?_)) | exact LeO.none _ | refine LeO.ite ?_ ?_ | refine LeO.bind ?_ (fun _ => ?_)
  · intro y0 y1 y2 y3 y4 y5 y6 y7
    unfold spec_l2Take.j1
    repeat' first | (with_reducible first | exact ih0 _ _ _ _ _ _ | exact ih1 _ _ _ _ _ _ _ _ | exact ih2 _ _ _ _ _ _ _ | exact ih3 _ _ _ _ _ _ _ _ _ | exact spec_l1Join.mono _ _ | exact LeO.refl _ | exact LeO.none _ | refine LeO.ite ?_ ?_ | refine LeO.bind ?_ (fun _ => ?_)) | exact LeO.none _ | refine LeO.ite ?_ ?_ | refine LeO.bind ?_ (fun _ => ?_)
  · intro y0 y1 y2 y3 y4 y5 y6
    unfold spec_l2Take.j2
    repeat' first | (with_reducible first | exact ih0 _ _ _ _ _ _ | exact ih1 _ _ _ _ _ _ _ _ | exact ih2 _ _ _ _ _ _ _ | exact ih3 _ _ _ _ _ _ _ _ _ | exact spec_l1Join.mono _ _ | exact LeO.refl _ | exact LeO.none _ | refine LeO.ite ?_ ?_ | refine LeO.bind ?_ (fun _ => ?_)) | exact LeO.none _ | refine LeO.ite ?_ ?_ | refine LeO.bind ?_ (fun _ => ?_)
  · intro y0 y1 y2 y3 y4 y5 y6 y7 y8
    unfold spec_l2Take.l1
    repeat' first | (with_reducible first | exact ih0 _ _ _ _ _ _ | exact ih1 _ _ _ _ _ _ _ _ | exact ih2 _ _ _ _ _ _ _ | exact ih3 _ _ _ _ _ _ _ _ _ | exact spec_l1Join.mono _ _ | exact LeO.refl _ | exact LeO.none _ | refine LeO.ite ?_ ?_ | refine LeO.bind ?_ (fun _ => ?_)) | exact LeO.none _ | refine LeO.ite ?_ ?_ | refine LeO.bind ?_ (fun _ => ?_)
theorem spec_l2Take.calls (k : Nat) (a0 : ByteArray) (a1 : Int) (r1 : ByteArray) (r2 : Int) (r3 : List Int) (r4 : Bool) (w : World) (h : spec_l2Take.f k a0 a1 = some (r1, r2, r3, r4)) :
 Calls Tryz.prog 115 #[.string a0, .int .i64 a1] w fun e w' => ∃ v2_ : Value, e = .returned (.tuple #[.string r1, .int .i64 r2, v2_, .bool r4]) ∧ Kd.R (Kd.int .i64) 3 w' w.heap.size (fun _ => True) v2_ r3 ∧ Below w.heap.size w w' := by
 have HB := a0_ (Below.refl w.heap.size w)
 have H := h
 clear h
 unfold spec_l2Take.f at H
 have H' := a0_ H
 clear H
 go_enter Tryz.func115, Tryz.ntmps115
 go_wp2
 go_loopg [1, 8, 9, 10, 11] k (fun kq v1 v8 v9 v10 v11 w' => ∃ (x1_1 : Int) (x8_1 : List ByteArray) (x9_1 : List Int) (x10_1 : Int) (x11_1 : Int), v1 = .int .i64 x1_1 ∧ v10 = .int .i64 x10_1 ∧ v11 = .int .i64 x11_1 ∧ Aside0 (spec_l2Take.l0 kq a0 x1_1 x8_1 x9_1 x10_1 x11_1 = some (r1, r2, r3, r4)) ∧ Aside0 (kq ≤ k) ∧ Aside0 (Kd.R Kd.string 9 w' w.heap.size (fun _ => True) v8 x8_1) ∧ Aside0 (Kd.R (Kd.int .i64) 3 w' w.heap.size (fun _ => True) v9 x9_1) ∧ Aside0 (Below w.heap.size w w'))
 case atStart => exact ⟨(a1), (([] : List ByteArray)), (([] : List Int)), (a1), ((-1)), rs_, rs_, rs_, H', ⟨Nat.le_refl _⟩, ⟨by first | exact Kd.R_nil _ _ _ _ _ | exact Kd.N_nil _ _ _ _ _ | exact Kd.V_nil _ _ _ _ _ | exact Kd.Q_nil _ _ _ _ _ | exact Kd.S_nil _ _ _ _ _⟩, ⟨by first | exact Kd.R_nil _ _ _ _ _ | exact Kd.N_nil _ _ _ _ _ | exact Kd.V_nil _ _ _ _ _ | exact Kd.Q_nil _ _ _ _ _ | exact Kd.S_nil _ _ _ _ _⟩, ⟨bq0_⟩⟩
 case round =>
  clear H'
  obtain ⟨x1_1, x8_1, x9_1, x10_1, x11_1, rfl, rfl, rfl, HA, HK1, HO_8, HO_9, HB⟩ := hrel
  cases gk with
  | zero => exact absurd HA.out (by simp [spec_l2Take.l0])
  | succ k1 =>
   have H := HA.out
   clear HA
   simp only [spec_l2Take.l0] at H
   by_cases c3 : (x8_1.length : Int) ≤ 8
   case neg =>
    rw [if_neg c3] at H
    have c3b0 := decide_eq_false c3
    have c3b1 : decide (x8_1.length ≤ 8) = false := decide_eq_false (by omega)
    clear c3
    simp only [Option.some.injEq, Prod.mk.injEq] at H
    obtain ⟨rfl, rfl, rfl, rfl⟩ := H
    obtain ⟨Ao56, co56, eo56⟩ := Kd.R_slice HO_8.out
    subst eo56
    go_wp2
    refine bodyPost_ret (results_list (rs := [.tmp 4, .tmp 5, .tmp 6, .tmp 7]) rfl (by simp) (.tmp (.tmp (.tmp (.tmp .nil))))) rfl ?_
    exact ⟨_, rr_, by first | exact Kd.R_nil _ _ _ _ _ | exact Kd.N_nil _ _ _ _ _ | exact Kd.V_nil _ _ _ _ _ | exact Kd.Q_nil _ _ _ _ _ | exact Kd.S_nil _ _ _ _ _, bq0_⟩
   rw [if_pos c3] at H
   have c3b0 := decide_eq_true c3
   have c3b1 : decide (x8_1.length ≤ 8) = true := decide_eq_true (by omega)
   clear c3
   by_cases c4 : x1_1 ≥ (a0.size : Int)
   case pos =>
    rw [if_pos c4] at H
    have c4b0 := decide_eq_true c4
    clear c4
    simp only [Option.some.injEq, Prod.mk.injEq] at H
    obtain ⟨rfl, rfl, rfl, rfl⟩ := H
    obtain ⟨Ao5, co5, eo5⟩ := Kd.R_slice HO_8.out
    subst eo5
    go_wp2
    refine bodyPost_ret (results_list (rs := [.tmp 4, .tmp 5, .tmp 6, .tmp 7]) rfl (by simp) (.tmp (.tmp (.tmp (.tmp .nil))))) rfl ?_
    exact ⟨_, rr_, by first | exact Kd.R_nil _ _ _ _ _ | exact Kd.N_nil _ _ _ _ _ | exact Kd.V_nil _ _ _ _ _ | exact Kd.Q_nil _ _ _ _ _ | exact Kd.S_nil _ _ _ _ _, bq0_⟩
   rw [if_neg c4] at H
   have c4b0 := decide_eq_false c4
   clear c4
   by_cases c6 : 0 ≤ x1_1
   case neg =>
    rw [if_neg c6] at H
    exact absurd H (by simp)
   rw [if_pos c6] at H
   have c6b0 := decide_eq_true c6
   clear c6
   by_cases c7 : x1_1 < (a0.size : Int)
   case neg =>
    rw [if_neg c7] at H
    exact absurd H (by simp)
   rw [if_pos c7] at H
   have c7b0 := decide_eq_true c7
   clear c7
   by_cases c9 : (wrap64 (bt a0 x1_1)) ≥ 192
   case pos =>
    rw [if_pos c9] at H
    have c9b0 := decide_eq_true c9
    clear c9
    by_cases c10 : (wrap64 (x1_1 + 1)) ≥ (a0.size : Int)
    case pos =>
     rw [if_pos c10] at H
     have c10b0 := decide_eq_true c10
     clear c10
     simp only [Option.some.injEq, Prod.mk.injEq] at H
     obtain ⟨rfl, rfl, rfl, rfl⟩ := H
     obtain ⟨Ao11, co11, eo11⟩ := Kd.R_slice HO_8.out
     subst eo11
     have p8 := t0_ (x1_1)
     have q8 := tl_ (x1_1) (a0.size)
     have hx8 := bt_at a0 x1_1
     go_wp2
     refine bodyPost_ret (results_list (rs := [.tmp 4, .tmp 5, .tmp 6, .tmp 7]) rfl (by simp) (.tmp (.tmp (.tmp (.tmp .nil))))) rfl ?_
     exact ⟨_, rr_, by first | exact Kd.R_nil _ _ _ _ _ | exact Kd.N_nil _ _ _ _ _ | exact Kd.V_nil _ _ _ _ _ | exact Kd.Q_nil _ _ _ _ _ | exact Kd.S_nil _ _ _ _ _, bq0_⟩
    rw [if_neg c10] at H
    have c10b0 := decide_eq_false c10
    clear c10
    by_cases c12 : x11_1 < 0
    case neg =>
     rw [if_neg c12] at H
     have c12b0 := decide_eq_false c12
     clear c12
     obtain ⟨ji20, hji20⟩ : ∃ j_ : Int, (wrap64 (x1_1 + 1)) = j_ := ⟨_, rfl⟩
     (first | rw [hji20] at H | simp only [hji20] at H)
     (try rw [hji20] at c10b0)
     have hji20w : (IntKind.i64.wrap (x1_1 + 1)) = ji20 := (i64_w _).trans hji20
     by_cases c21 : 0 ≤ (ji20)
     case neg =>
      rw [if_neg c21] at H
      exact absurd H (by simp)
     rw [if_pos c21] at H
     have c21b0 := decide_eq_true c21
     clear c21
     by_cases c22 : (ji20) < (a0.size : Int)
     case neg =>
      rw [if_neg c22] at H
      exact absurd H (by simp)
     rw [if_pos c22] at H
     have c22b0 := decide_eq_true c22
     clear c22
     by_cases c24 : (wrap64 ((wrap64 ((wrap64 ((wrap64 (bt a0 x1_1)) - 192)) * 256)) + (wrap64 (bt a0 (ji20))))) ≥ x10_1
     case pos =>
      rw [if_pos c24] at H
      have c24b0 := decide_eq_true c24
      clear c24
      simp only [Option.some.injEq, Prod.mk.injEq] at H
      obtain ⟨rfl, rfl, rfl, rfl⟩ := H
      obtain ⟨Ao25, co25, eo25⟩ := Kd.R_slice HO_8.out
      subst eo25
      have p8 := t0_ (x1_1)
      have q8 := tl_ (x1_1) (a0.size)
      have hx8 := bt_at a0 x1_1
      have p23 := t0_ ((ji20))
      have q23 := tl_ ((ji20)) (a0.size)
      have hx23 := bt_at a0 (ji20)
      go_wp2
      refine bodyPost_ret (results_list (rs := [.tmp 4, .tmp 5, .tmp 6, .tmp 7]) rfl (by simp) (.tmp (.tmp (.tmp (.tmp .nil))))) rfl ?_
      exact ⟨_, by first | rfl | (simp [errW_none, errW_some] <;> rfl) | (simp only [← hji20]; first | rfl | (simp [errW_none, errW_some] <;> rfl)) | (simp [*, errW_none, errW_some] <;> rfl), by first | exact Kd.R_nil _ _ _ _ _ | exact Kd.N_nil _ _ _ _ _ | exact Kd.V_nil _ _ _ _ _ | exact Kd.Q_nil _ _ _ _ _ | exact Kd.S_nil _ _ _ _ _, bq0_⟩
     rw [if_neg c24] at H
     have c24b0 := decide_eq_false c24
     clear c24
     have H' := a0_ H
     clear H
     obtain ⟨Ao26, co26, eo26⟩ := Kd.R_slice HO_8.out
     subst eo26
     have p8 := t0_ (x1_1)
     have q8 := tl_ (x1_1) (a0.size)
     have hx8 := bt_at a0 x1_1
     have p23 := t0_ ((ji20))
     have q23 := tl_ ((ji20)) (a0.size)
     have hx23 := bt_at a0 (ji20)
     go_wp2
     go_roundg k1
     case measure => have := HK1.out; omega
     case rel => exact ⟨(wrap64 ((wrap64 ((wrap64 ((wrap64 (bt a0 x1_1)) - 192)) * 256)) + (wrap64 (bt a0 (ji20))))), (x8_1), (x9_1), (wrap64 ((wrap64 ((wrap64 ((wrap64 (bt a0 x1_1)) - 192)) * 256)) + (wrap64 (bt a0 (ji20))))), (x11_1), (by first | rfl | (simp; done) | (simp only [← hji20] <;> (first | rfl | simp)) | (simp [*]; done)), (by first | rfl | (simp; done) | (simp only [← hji20] <;> (first | rfl | simp)) | (simp [*]; done)), rs_, H', jl_ HK1, ⟨kR_ HO_8.out⟩, ⟨kR_ HO_9.out⟩, ⟨bq0_⟩⟩
    rw [if_pos c12] at H
    have c12b0 := decide_eq_true c12
    clear c12
    obtain ⟨ji13, hji13⟩ : ∃ j_ : Int, (wrap64 (x1_1 + 1)) = j_ := ⟨_, rfl⟩
    (first | rw [hji13] at H | simp only [hji13] at H)
    (try rw [hji13] at c10b0)
    have hji13w : (IntKind.i64.wrap (x1_1 + 1)) = ji13 := (i64_w _).trans hji13
    by_cases c14 : 0 ≤ (ji13)
    case neg =>
     rw [if_neg c14] at H
     exact absurd H (by simp)
    rw [if_pos c14] at H
    have c14b0 := decide_eq_true c14
    clear c14
    by_cases c15 : (ji13) < (a0.size : Int)
    case neg =>
     rw [if_neg c15] at H
     exact absurd H (by simp)
    rw [if_pos c15] at H
    have c15b0 := decide_eq_true c15
    clear c15
    by_cases c17 : (wrap64 ((wrap64 ((wrap64 ((wrap64 (bt a0 x1_1)) - 192)) * 256)) + (wrap64 (bt a0 (ji13))))) ≥ x10_1
    case pos =>
     rw [if_pos c17] at H
     have c17b0 := decide_eq_true c17
     clear c17
     simp only [Option.some.injEq, Prod.mk.injEq] at H
     obtain ⟨rfl, rfl, rfl, rfl⟩ := H
     obtain ⟨Ao18, co18, eo18⟩ := Kd.R_slice HO_8.out
     subst eo18
     have p8 := t0_ (x1_1)
     have q8 := tl_ (x1_1) (a0.size)
     have hx8 := bt_at a0 x1_1
     have p16 := t0_ ((ji13))
     have q16 := tl_ ((ji13)) (a0.size)
     have hx16 := bt_at a0 (ji13)
     go_wp2
     refine bodyPost_ret (results_list (rs := [.tmp 4, .tmp 5, .tmp 6, .tmp 7]) rfl (by simp) (.tmp (.tmp (.tmp (.tmp .nil))))) rfl ?_
     exact ⟨_, by first | rfl | (simp [errW_none, errW_some] <;> rfl) | (simp only [← hji13]; first | rfl | (simp [errW_none, errW_some] <;> rfl)) | (simp [*, errW_none, errW_some] <;> rfl), by first | exact Kd.R_nil _ _ _ _ _ | exact Kd.N_nil _ _ _ _ _ | exact Kd.V_nil _ _ _ _ _ | exact Kd.Q_nil _ _ _ _ _ | exact Kd.S_nil _ _ _ _ _, bq0_⟩
    rw [if_neg c17] at H
    have c17b0 := decide_eq_false c17
    clear c17
    have H' := a0_ H
    clear H
    obtain ⟨Ao19, co19, eo19⟩ := Kd.R_slice HO_8.out
    subst eo19
    have p8 := t0_ (x1_1)
    have q8 := tl_ (x1_1) (a0.size)
    have hx8 := bt_at a0 x1_1
    have p16 := t0_ ((ji13))
    have q16 := tl_ ((ji13)) (a0.size)
    have hx16 := bt_at a0 (ji13)
    go_wp2
    go_roundg k1
    case measure => have := HK1.out; omega
    case rel => exact ⟨(wrap64 ((wrap64 ((wrap64 ((wrap64 (bt a0 x1_1)) - 192)) * 256)) + (wrap64 (bt a0 (ji13))))), (x8_1), (x9_1), (wrap64 ((wrap64 ((wrap64 ((wrap64 (bt a0 x1_1)) - 192)) * 256)) + (wrap64 (bt a0 (ji13))))), (wrap64 (x1_1 + 2)), (by first | rfl | (simp; done) | (simp only [← hji13] <;> (first | rfl | simp)) | (simp [*]; done)), (by first | rfl | (simp; done) | (simp only [← hji13] <;> (first | rfl | simp)) | (simp [*]; done)), rs_, H', jl_ HK1, ⟨kR_ HO_8.out⟩, ⟨kR_ HO_9.out⟩, ⟨bq0_⟩⟩
   rw [if_neg c9] at H
   have c9b0 := decide_eq_false c9
   clear c9
   by_cases c27 : (wrap64 (bt a0 x1_1)) = 0
   case pos =>
    rw [if_pos c27] at H
    have c27b0 := beq_iff_eq.mpr c27
    have c27b1 := bne_eq_false_iff_eq.mpr c27
    clear c27
    by_cases c28 : x11_1 < 0
    case neg =>
     rw [if_neg c28] at H
     have c28b0 := decide_eq_false c28
     clear c28
     obtain ⟨t128, A33, H⟩ := ob_ H
     obtain ⟨⟨t129, t130⟩, A34, H⟩ := ob_ H
     simp only [Option.some.injEq, Prod.mk.injEq] at H
     obtain ⟨rfl, rfl, rfl, rfl⟩ := H
     obtain ⟨Ao35, co35, eo35⟩ := Kd.R_slice HO_8.out
     subst eo35
     have p8 := t0_ (x1_1)
     have q8 := tl_ (x1_1) (a0.size)
     have hx8 := bt_at a0 x1_1
     go_wp2_with (first | ((with_reducible refine gt_ 170 rfl ?_); refine gs_ 61 Tryz.func170 #[.slice Ao35 x8_1.length co35] ?_; (with_reducible refine (spec_l1Join.calls k1 _ _ x8_1 t128 _ ?side1 ?side2 A33.out).mono ?_); (case side1 => exact kD_ (Kd.R_reads' HO_8.out).2.2); (case side2 => exact (Kd.R_reads' HO_8.out).2.1); rintro e w' ⟨rfl, ⟨nd, rfl⟩⟩; refine ⟨_, rfl, ?_⟩) | ((with_reducible refine gt_ 169 rfl ?_); refine gs_ 62 Tryz.func169 #[.string t128] ?_; (with_reducible refine (spec_FoldName.calls t128 t129 t130 _ A34.out).mono ?_); rintro e w36 ⟨rfl, hb⟩; refine ⟨_, rfl, ?_⟩; replace HO_8 := a0_ (Kd.R_below (kR_ HO_8.out) hb); replace HO_9 := a0_ (Kd.R_below (kR_ HO_9.out) hb); replace HB := a0_ (below_step bq0_ hb); clear hb))
     refine bodyPost_ret (results_list (rs := [.tmp 4, .tmp 5, .tmp 6, .tmp 7]) rfl (by simp) (.tmp (.tmp (.tmp (.tmp .nil))))) rfl ?_
     exact ⟨_, rr_, kR_ HO_9.out, bq0_⟩
    rw [if_pos c28] at H
    have c28b0 := decide_eq_true c28
    clear c28
    obtain ⟨t125, A29, H⟩ := ob_ H
    obtain ⟨⟨t126, t127⟩, A30, H⟩ := ob_ H
    simp only [Option.some.injEq, Prod.mk.injEq] at H
    obtain ⟨rfl, rfl, rfl, rfl⟩ := H
    obtain ⟨Ao31, co31, eo31⟩ := Kd.R_slice HO_8.out
    subst eo31
    have p8 := t0_ (x1_1)
    have q8 := tl_ (x1_1) (a0.size)
    have hx8 := bt_at a0 x1_1
    go_wp2_with (first | ((with_reducible refine gt_ 170 rfl ?_); refine gs_ 61 Tryz.func170 #[.slice Ao31 x8_1.length co31] ?_; (with_reducible refine (spec_l1Join.calls k1 _ _ x8_1 t125 _ ?side1 ?side2 A29.out).mono ?_); (case side1 => exact kD_ (Kd.R_reads' HO_8.out).2.2); (case side2 => exact (Kd.R_reads' HO_8.out).2.1); rintro e w' ⟨rfl, ⟨nd, rfl⟩⟩; refine ⟨_, rfl, ?_⟩) | ((with_reducible refine gt_ 169 rfl ?_); refine gs_ 62 Tryz.func169 #[.string t125] ?_; (with_reducible refine (spec_FoldName.calls t125 t126 t127 _ A30.out).mono ?_); rintro e w32 ⟨rfl, hb⟩; refine ⟨_, rfl, ?_⟩; replace HO_8 := a0_ (Kd.R_below (kR_ HO_8.out) hb); replace HO_9 := a0_ (Kd.R_below (kR_ HO_9.out) hb); replace HB := a0_ (below_step bq0_ hb); clear hb))
    refine bodyPost_ret (results_list (rs := [.tmp 4, .tmp 5, .tmp 6, .tmp 7]) rfl (by simp) (.tmp (.tmp (.tmp (.tmp .nil))))) rfl ?_
    exact ⟨_, rr_, kR_ HO_9.out, bq0_⟩
   rw [if_neg c27] at H
   have c27b0 := beq_eq_false_iff_ne.mpr c27
   have c27b1 := bne_iff_ne.mpr c27
   have HC37 := a0_ H
   clear H
   obtain ⟨Ao38, co38, eo38⟩ := Kd.R_slice HO_8.out
   subst eo38
   have p8 := t0_ (x1_1)
   have q8 := tl_ (x1_1) (a0.size)
   have hx8 := bt_at a0 x1_1
   go_upto_region 23 with (fail)
   go_cut [79] (fun v79 wc => ∃ (kq : Nat) (x79_36 : Bool), v79 = .bool x79_36 ∧ Aside0 (spec_l2Take.j1 kq a0 x1_1 x8_1 x9_1 x10_1 x11_1 (wrap64 (bt a0 x1_1)) x79_36 = some (r1, r2, r3, r4)) ∧ Aside0 (kq ≤ k1) ∧ Aside0 (Kd.R Kd.string 9 wc w.heap.size (fun _ => True) (.slice Ao38 x8_1.length co38) x8_1) ∧ Aside0 (Kd.R (Kd.int .i64) 3 wc w.heap.size (fun _ => True) u9 x9_1) ∧ Aside0 (Below w.heap.size w wc))
   case first =>
    have H := HC37.out
    clear HC37
    by_cases c39 : (wrap64 (bt a0 x1_1)) > 20
    case neg =>
     rw [if_neg c39] at H
     have c39b0 := decide_eq_false c39
     clear c39
     (first | rw [c39b0] | (simp only [i64_w, i32_w]; rw [c39b0]) | skip)
     have H' := a0_ H
     clear H
     go_wp2
     go_meet
     case rel => exact ⟨_, (decide ((wrap64 ((wrap64 (x1_1 + 1)) + (wrap64 (bt a0 x1_1)))) > (a0.size : Int))), rs_, H', jl_ HK1, ⟨kR_ HO_8.out⟩, ⟨kR_ HO_9.out⟩, ⟨bq0_⟩⟩
    rw [if_pos c39] at H
    have c39b0 := decide_eq_true c39
    clear c39
    (first | rw [c39b0] | (simp only [i64_w, i32_w]; rw [c39b0]) | skip)
    have H' := a0_ H
    clear H
    go_wp2
    go_meet
    case rel => exact ⟨_, (true), rs_, H', jl_ HK1, ⟨kR_ HO_8.out⟩, ⟨kR_ HO_9.out⟩, ⟨bq0_⟩⟩
   case rest =>
    clear HC37
    try clear c1
    try clear p2
    try clear c3
    try clear c3b0
    try clear c3b1
    try clear c4
    try clear c4b0
    try clear c6
    try clear c6b0
    try clear c7
    try clear c7b0
    try clear p8
    try clear q8
    try clear hx8
    try clear c9
    try clear c9b0
    try clear c27
    try clear c27b0
    try clear c27b1
    try clear p2
    try clear p8
    try clear q8
    obtain ⟨kq, x79_36, rfl, HA, HJ36, HO_8, HO_9, HB⟩ := hcut
    cases kq with
    | zero => exact absurd HA.out (by simp [spec_l2Take.j1])
    | succ kj36 =>
     have H := HA.out
     clear HA
     simp only [spec_l2Take.j1] at H
     by_cases c40 : x79_36 = true
     case pos =>
      subst c40
      rw [if_pos rfl] at H
      simp only [Option.some.injEq, Prod.mk.injEq] at H
      obtain ⟨rfl, rfl, rfl, rfl⟩ := H
      go_wp2
      refine bodyPost_ret (results_list (rs := [.tmp 4, .tmp 5, .tmp 6, .tmp 7]) rfl (by simp) (.tmp (.tmp (.tmp (.tmp .nil))))) rfl ?_
      exact ⟨_, rr_, by first | exact Kd.R_nil _ _ _ _ _ | exact Kd.N_nil _ _ _ _ _ | exact Kd.V_nil _ _ _ _ _ | exact Kd.Q_nil _ _ _ _ _ | exact Kd.S_nil _ _ _ _ _, bq0_⟩
     replace c40 := Bool.eq_false_iff.mpr c40
     subst c40
     rw [if_neg ff_] at H
     have HC41 := a0_ H
     clear H
     go_upto_if 81 with (fail)
     go_cut [9] (fun v9 wc => ∃ (kq : Nat) (x9_40 : List Int), Aside0 (spec_l2Take.j2 kq a0 x1_1 x8_1 x9_40 x10_1 x11_1 (wrap64 (bt a0 x1_1)) = some (r1, r2, r3, r4)) ∧ Aside0 (kq ≤ kj36) ∧ Aside0 (Kd.R Kd.string 9 wc w.heap.size (fun _ => True) (.slice Ao38 x8_1.length co38) x8_1) ∧ Aside0 (Kd.R (Kd.int .i64) 3 wc w.heap.size (fun _ => True) v9 x9_40) ∧ Aside0 (Below w.heap.size w wc))
     case first =>
      have H := HC41.out
      clear HC41
      by_cases c42 : x11_1 < 0
      case neg =>
       rw [if_neg c42] at H
       have c42b0 := decide_eq_false c42
       clear c42
       (first | rw [c42b0] | (simp only [i64_w, i32_w]; rw [c42b0]) | skip)
       have H' := a0_ H
       clear H
       go_wp2
       go_meet
       case rel => exact ⟨_, (x9_1), H', ⟨by have := HK1.out; have := HJ36.out; first | omega | exact Nat.le_refl _⟩, ⟨kR_ HO_8.out⟩, ⟨kR_ HO_9.out⟩, ⟨bq0_⟩⟩
      rw [if_pos c42] at H
      have c42b0 := decide_eq_true c42
      clear c42
      (first | rw [c42b0] | (simp only [i64_w, i32_w]; rw [c42b0]) | skip)
      by_cases c43 : x9_1.length < 17592186044416
      case neg =>
       rw [if_neg c43] at H
       exact absurd H (by simp)
      rw [if_pos c43] at H
      have LMc43 := a0_ c43
      clear c43
      obtain ⟨y131, hy131⟩ : ∃ y_ : List Int, y_ = (x9_1 ++ [x1_1]) := ⟨_, rfl⟩
      replace H : (spec_l2Take.j2 kj36 a0 x1_1 x8_1 y131 x10_1 x11_1 (wrap64 (bt a0 x1_1))) = some (r1, r2, r3, r4) := by first | (rw [hy131]; with_reducible exact H) | (have H2_ := (Option.bind_some _ _).symm.trans H; rw [hy131]; with_reducible exact H2_) | (have H2_ := (Option.bind_some _ _).symm.trans H; with_reducible exact H2_) | with_reducible exact H | (rw [hy131]; exact H) | exact H
      have Ny131 := a0_ hy131
      clear hy131
      have H' := a0_ H
      clear H
      go_wp2_with (first | ((with_reducible refine gate_builtin (b := .append) (xs := #[.tmp 82, .tmp 84]) rfl ?_); (try (refine gate_guard (by rfl) ?_; dsimp only)); at_builtin; refine Kd.R_append (Kd.int .i64) (w0 := w) w.heap.size rfl (.tmp 82) (.tmp 84) 131 3 (.int .i64 0) 8 rfl Tryz.underlying131 info3 rfl (by decide) (by omega) u9 x9_1 x1_1 [.int .i64 x1_1] (fun _ => True) (fun _ => False) rfl rfl ?aP (fun _ hk => hk.elim) ?aF ?aO ?aB ?aS ?aL ?_; (case aP => exact rfl); (case aB => exact bq0_); (case aF => exact (fun _ _ => trivial)); (case aO => exact (kR_ HO_9.out)); (case aS => exact (below_size bq0_)); (case aL => have := LMc43.out; omega); intro v132 w44 ho hb hg hat; rw [← Ny131.out] at ho; replace HO_8 := a0_ (Kd.R_over' (kR_ HO_8.out) (Kd.R_typed (kR_ HO_9.out)) (by decide) hg); replace HB := a0_ (hb); have HO133 := a0_ (ho); clear HO_9; clear ho hb hg hat))
      go_meet
      case rel => exact ⟨_, (y131), H', ⟨by have := HK1.out; have := HJ36.out; first | omega | exact Nat.le_refl _⟩, ⟨kR_ HO_8.out⟩, ⟨kR_ HO133.out⟩, ⟨bq0_⟩⟩
     case rest =>
      clear HC41
      try clear c1
      try clear p1
      try clear q1
      try clear hx1
      try clear c2
      try clear p2
      try clear q2
      try clear hx2
      try clear c3
      try clear c3b0
      try clear c3b1
      try clear c4
      try clear c4b0
      try clear c6
      try clear c6b0
      try clear p6
      try clear c7
      try clear c7b0
      try clear p8
      try clear q8
      try clear hx8
      try clear c9
      try clear c9b0
      try clear c10
      try clear c10b0
      try clear c11
      try clear c12
      try clear c12b0
      try clear c14
      try clear c14b0
      try clear c15
      try clear c15b0
      try clear c16
      try clear p16
      try clear q16
      try clear hx16
      try clear c17
      try clear c17b0
      try clear c21
      try clear c21b0
      try clear c22
      try clear c22b0
      try clear p23
      try clear q23
      try clear hx23
      try clear c24
      try clear c24b0
      try clear c27
      try clear c27b0
      try clear c27b1
      try clear c28
      try clear c28b0
      try clear c39
      try clear c39b0
      try clear c40
      try clear p1
      try clear p16
      try clear p2
      try clear p23
      try clear p6
      try clear p8
      try clear q1
      try clear q16
      try clear q2
      try clear q23
      try clear q8
      obtain ⟨kq, x9_40, HA, HJ40, HO_8, HO_9, HB⟩ := hcut
      cases kq with
      | zero => exact absurd HA.out (by simp [spec_l2Take.j2])
      | succ kj40 =>
       have H := HA.out
       clear HA
       simp only [spec_l2Take.j2] at H
       obtain ⟨ji45, hji45⟩ : ∃ j_ : Int, (wrap64 (x1_1 + 1)) = j_ := ⟨_, rfl⟩
       (first | rw [hji45] at H | simp only [hji45] at H)
       have hji45w : (IntKind.i64.wrap (x1_1 + 1)) = ji45 := (i64_w _).trans hji45
       by_cases c46 : 0 ≤ (ji45)
       case neg =>
        rw [if_neg c46] at H
        exact absurd H (by simp)
       rw [if_pos c46] at H
       have c46b0 := eq_true c46
       have c46b1 := decide_eq_true c46
       clear c46
       by_cases c47 : (ji45) ≤ (wrap64 ((ji45) + (wrap64 (bt a0 x1_1))))
       case neg =>
        rw [if_neg c47] at H
        exact absurd H (by simp)
       rw [if_pos c47] at H
       have c47b0 := eq_true c47
       have c47b1 := decide_eq_true c47
       by_cases c48 : (wrap64 ((ji45) + (wrap64 (bt a0 x1_1)))) ≤ (a0.size : Int)
       case neg =>
        rw [if_neg c48] at H
        exact absurd H (by simp)
       rw [if_pos c48] at H
       have c48b0 := eq_true c48
       have c48b1 := decide_eq_true c48
       have H' := a0_ H
       clear H
       go_wp2
       go_loopg [16] kj40 (fun kq v16 w' => ∃ (x16_4 : Int), v16 = .int .i64 x16_4 ∧ Aside0 (spec_l2Take.l1 kq a0 x1_1 x8_1 x9_40 x10_1 x11_1 (wrap64 (bt a0 x1_1)) (a0.extract ((ji45) : Int).toNat ((wrap64 ((ji45) + (wrap64 (bt a0 x1_1)))) : Int).toNat) x16_4 = some (r1, r2, r3, r4)) ∧ Aside0 (kq ≤ kj40) ∧ Aside0 (Kd.R Kd.string 9 w' w.heap.size (fun _ => True) (.slice Ao38 x8_1.length co38) x8_1) ∧ Aside0 (Kd.R (Kd.int .i64) 3 w' w.heap.size (fun _ => True) u9 x9_40) ∧ Aside0 (Below w.heap.size w w'))
       case atStart => exact ⟨(0), rs_, H', ⟨Nat.le_refl _⟩, ⟨kR_ HO_8.out⟩, ⟨kR_ HO_9.out⟩, ⟨bq0_⟩⟩
       case round =>
        clear H'
        try clear c1
        try clear p1
        try clear q1
        try clear hx1
        try clear c2
        try clear p2
        try clear q2
        try clear hx2
        try clear c3
        try clear c3b0
        try clear c3b1
        try clear c4
        try clear c4b0
        try clear c6
        try clear c6b0
        try clear p6
        try clear c7
        try clear c7b0
        try clear p8
        try clear q8
        try clear hx8
        try clear c9
        try clear c9b0
        try clear c10
        try clear c10b0
        try clear c11
        try clear c12
        try clear c12b0
        try clear c14
        try clear c14b0
        try clear c15
        try clear c15b0
        try clear c16
        try clear p16
        try clear q16
        try clear hx16
        try clear c17
        try clear c17b0
        try clear c21
        try clear c21b0
        try clear c22
        try clear c22b0
        try clear p23
        try clear q23
        try clear hx23
        try clear c24
        try clear c24b0
        try clear c27
        try clear c27b0
        try clear c27b1
        try clear c28
        try clear c28b0
        try clear c39
        try clear c39b0
        try clear c40
        try clear c42
        try clear c42b0
        try clear c43
        try clear c46
        try clear c46b0
        try clear c46b1
        try clear c47
        try clear c47b0
        try clear c47b1
        try clear c48
        try clear c48b0
        try clear c48b1
        try clear p1
        try clear p16
        try clear p2
        try clear p23
        try clear p6
        try clear p8
        try clear q1
        try clear q16
        try clear q2
        try clear q23
        try clear q8
        obtain ⟨x16_4, rfl, HA, HK4, HO_8, HO_9, HB⟩ := hrel
        cases gk with
        | zero => exact absurd HA.out (by simp [spec_l2Take.l1])
        | succ k4 =>
         have H := HA.out
         clear HA
         simp only [spec_l2Take.l1] at H
         by_cases c49 : x16_4 < (wrap64 (bt a0 x1_1))
         case neg =>
          rw [if_neg c49] at H
          have c49b0 := decide_eq_false c49
          clear c49
          by_cases c54 : x8_1.length < 8796093022208
          case neg =>
           rw [if_neg c54] at H
           exact absurd H (by simp)
          rw [if_pos c54] at H
          have LMc54 := a0_ c54
          clear c54
          obtain ⟨y134, hy134⟩ : ∃ y_ : List ByteArray, y_ = (x8_1 ++ [(a0.extract ((ji45) : Int).toNat ((wrap64 ((ji45) + (wrap64 (bt a0 x1_1)))) : Int).toNat)]) := ⟨_, rfl⟩
          rw [← hy134] at H
          have Ny134 := a0_ hy134
          clear hy134
          have H' := a0_ H
          clear H
          go_wp2_with (first | ((with_reducible refine gate_builtin (b := .append) (xs := #[.tmp 103, .tmp 105]) rfl ?_); (try (refine gate_guard (by rfl) ?_; dsimp only)); at_builtin; refine Kd.R_append Kd.string (w0 := w) w.heap.size rfl (.tmp 103) (.tmp 105) 78 9 (.string ⟨#[]⟩) 16 rfl Tryz.underlying78 info9 rfl (by decide) (by omega) (.slice Ao38 x8_1.length co38) x8_1 (a0.extract ((ji45) : Int).toNat ((wrap64 ((ji45) + (wrap64 (bt a0 x1_1)))) : Int).toNat) [.string (a0.extract ((ji45) : Int).toNat ((wrap64 ((ji45) + (wrap64 (bt a0 x1_1)))) : Int).toNat)] (fun _ => True) (fun _ => False) rfl rfl ?aP (fun _ hk => hk.elim) ?aF ?aO ?aB ?aS ?aL ?_; (case aP => exact rfl); (case aB => exact bq0_); (case aF => exact (fun _ _ => trivial)); (case aO => exact (kR_ HO_8.out)); (case aS => exact (below_size bq0_)); (case aL => have := LMc54.out; omega); intro v135 w55 ho hb hg hat; rw [← Ny134.out] at ho; replace HO_9 := a0_ (Kd.R_over' (kR_ HO_9.out) (Kd.R_typed (kR_ HO_8.out)) (by decide) hg); replace HB := a0_ (hb); have HO136 := a0_ (ho); clear HO_8; clear ho hb hg hat))
          go_roundg k4
          case measure => have := HK1.out; have := HJ36.out; have := HJ40.out; have := HK4.out; omega
          case rel => exact ⟨(wrap64 (x1_1 + (wrap64 (1 + (wrap64 (bt a0 x1_1)))))), (y134), (x9_40), (x10_1), (x11_1), rs_, rs_, rs_, H', ⟨by have := HK1.out; have := HJ36.out; have := HJ40.out; have := HK4.out; omega⟩, ⟨kR_ HO136.out⟩, ⟨kR_ HO_9.out⟩, ⟨bq0_⟩⟩
         rw [if_pos c49] at H
         have c49b0 := decide_eq_true c49
         clear c49
         by_cases c50 : 0 ≤ x16_4
         case neg =>
          rw [if_neg c50] at H
          exact absurd H (by simp)
         rw [if_pos c50] at H
         have c50b0 := decide_eq_true c50
         clear c50
         by_cases c51 : x16_4 < ((a0.extract ((ji45) : Int).toNat ((wrap64 ((ji45) + (wrap64 (bt a0 x1_1)))) : Int).toNat).size : Int)
         case neg =>
          rw [if_neg c51] at H
          exact absurd H (by simp)
         rw [if_pos c51] at H
         have c51b0 := decide_eq_true c51
         clear c51
         by_cases c53 : (bt (a0.extract ((ji45) : Int).toNat ((wrap64 ((ji45) + (wrap64 (bt a0 x1_1)))) : Int).toNat) x16_4) = 46
         case neg =>
          rw [if_neg c53] at H
          have c53b0 := beq_eq_false_iff_ne.mpr c53
          have c53b1 := bne_iff_ne.mpr c53
          have H' := a0_ H
          clear H
          have p52 := t0_ (x16_4)
          have q52 := tl_ (x16_4) ((a0.extract ((ji45) : Int).toNat ((wrap64 ((ji45) + (wrap64 (bt a0 x1_1)))) : Int).toNat).size)
          have hx52 := bt_at (a0.extract ((ji45) : Int).toNat ((wrap64 ((ji45) + (wrap64 (bt a0 x1_1)))) : Int).toNat) x16_4
          go_wp2
          go_roundg k4
          case measure => have := HK1.out; have := HJ36.out; have := HJ40.out; have := HK4.out; omega
          case rel => exact ⟨(wrap64 (x16_4 + 1)), rs_, H', ⟨by have := HK1.out; have := HJ36.out; have := HJ40.out; have := HK4.out; omega⟩, ⟨kR_ HO_8.out⟩, ⟨kR_ HO_9.out⟩, ⟨bq0_⟩⟩
         rw [if_pos c53] at H
         have c53b0 := beq_iff_eq.mpr c53
         have c53b1 := bne_eq_false_iff_eq.mpr c53
         clear c53
         simp only [Option.some.injEq, Prod.mk.injEq] at H
         obtain ⟨rfl, rfl, rfl, rfl⟩ := H
         have p52 := t0_ (x16_4)
         have q52 := tl_ (x16_4) ((a0.extract ((ji45) : Int).toNat ((wrap64 ((ji45) + (wrap64 (bt a0 x1_1)))) : Int).toNat).size)
         have hx52 := bt_at (a0.extract ((ji45) : Int).toNat ((wrap64 ((ji45) + (wrap64 (bt a0 x1_1)))) : Int).toNat) x16_4
         go_wp2
         refine bodyPost_ret (results_list (rs := [.tmp 4, .tmp 5, .tmp 6, .tmp 7]) rfl (by simp) (.tmp (.tmp (.tmp (.tmp .nil))))) rfl ?_
         exact ⟨_, by first | rfl | (simp [errW_none, errW_some] <;> rfl) | (simp only [← hji45]; first | rfl | (simp [errW_none, errW_some] <;> rfl)) | (simp [*, errW_none, errW_some] <;> rfl), by first | exact Kd.R_nil _ _ _ _ _ | exact Kd.N_nil _ _ _ _ _ | exact Kd.V_nil _ _ _ _ _ | exact Kd.Q_nil _ _ _ _ _ | exact Kd.S_nil _ _ _ _ _, bq0_⟩
end Go.Proofs.YtiegkjimpclmaaaGreatDoor.P
namespace Go.Proofs.YtiegkjimpclmaaaGreatDoor.P
attribute [local go_sem] max2_int min2_int max_two min_two max_three min_three max_four min_four
end Go.Proofs.YtiegkjimpclmaaaGreatDoor.P
namespace Go.Proofs.YtiegkjimpclmaaaGreatDoor.Pure
open Go.Proofs.YtiegkjimpclmaaaGreatDoor.P
theorem cmpP_lt (a b : ByteArray) : cmpP a b = if a.data.toList < b.data.toList then -1 else if b.data.toList < a.data.toList then 1 else 0 := by
 unfold cmpP
 rw [Go.Proofs.bytesLess_eq, Go.Proofs.bytesLess_eq, Lib.toList_data, Lib.toList_data]
 simp only [decide_eq_true_eq]
theorem lst_tri (a b : List UInt8) : a < b ∨ a = b ∨ b < a := by
 by_cases h1 : a < b
 · exact .inl h1
 · by_cases h2 : b < a
   · exact .inr (.inr h2)
   · exact .inr (.inl (List.le_antisymm h2 h1))
theorem cmpP_zero (a b : ByteArray) : cmpP a b = 0 ↔ a = b := by
 rw [cmpP_lt]
 rcases lst_tri a.data.toList b.data.toList with h | h | h
 · rw [if_pos h]
   refine ⟨fun h0 => by omega, fun e => ?_⟩
   rw [e] at h
   exact absurd h (List.lt_irrefl _)
 · have hn : ¬ a.data.toList < b.data.toList := by rw [h]; exact List.lt_irrefl _
   have hn2 : ¬ b.data.toList < a.data.toList := by rw [h]; exact List.lt_irrefl _
   rw [if_neg hn, if_neg hn2]
   exact ⟨fun _ => ext_data h, fun _ => rfl⟩
 · have hn : ¬ a.data.toList < b.data.toList := fun h' => absurd (List.lt_trans h h') (List.lt_irrefl _)
   rw [if_neg hn, if_pos h]
   refine ⟨fun h0 => by omega, fun e => ?_⟩
   rw [e] at h
   exact absurd h (List.lt_irrefl _)
theorem cmpL_zero : ∀ x y : List ByteArray, cmpL x y = 0 ↔ x = y
 | [], [] => ⟨fun _ => rfl, fun _ => rfl⟩
 | [], _ :: _ => ⟨fun h => by simp [cmpL] at h, fun h => by cases h⟩
 | _ :: _, [] => ⟨fun h => by simp [cmpL] at h, fun h => by cases h⟩
 | a :: x, b :: y => by
  unfold cmpL
  by_cases h : cmpP a b = 0
  · rw [if_pos h, cmpL_zero x y, (cmpP_zero a b).1 h]
    exact ⟨fun e => by rw [e], fun e => by injection e⟩
  · rw [if_neg h]
    refine ⟨fun e => absurd e h, fun e => ?_⟩
    injection e with e1 e2
    exact absurd ((cmpP_zero a b).2 e1) h
def unO : List (List UInt8) → List UInt8
 | [] => []
 | [p] => p
 | p :: q :: r => p ++ 46 :: unO (q :: r)
theorem unO_split : ∀ s : List UInt8, unO (splitL 46 s) = s
 | [] => rfl
 | x :: xs => by
  have ih := unO_split xs
  obtain ⟨p, ps, hp⟩ := List.exists_cons_of_ne_nil (splitL_ne 46 xs)
  unfold splitL
  rw [hp] at ih ⊢
  by_cases h : x = 46
  · rw [if_pos h]
    show [] ++ 46 :: unO (p :: ps) = _
    rw [ih, h]
    rfl
  · rw [if_neg h]
    cases ps with
    | nil => show x :: p = _; rw [show p = xs from ih]
    | cons q r =>
     show (x :: p) ++ 46 :: unO (q :: r) = _
     have ih2 : p ++ 46 :: unO (q :: r) = xs := ih
     rw [List.cons_append, ih2]
theorem labels_inj {a b : List UInt8} (h : labelsL a = labelsL b) : a = b := by
 unfold labelsL at h
 by_cases ha : a = []
 · rw [if_pos ha] at h
   by_cases hb : b = []
   · rw [ha, hb]
   · rw [if_neg hb] at h
     exact absurd h.symm (splitL_ne 46 b)
 · rw [if_neg ha] at h
   by_cases hb : b = []
   · rw [if_pos hb] at h
     exact absurd h (splitL_ne 46 a)
   · rw [if_neg hb] at h
     rw [← unO_split a, ← unO_split b, h]
theorem ord_zero (a b : List UInt8) : ordL a b = 0 ↔ a = b := by
 unfold ordL
 rw [cmpL_zero]
 refine ⟨fun h => ?_, fun h => by rw [h]⟩
 have h1 := List.reverse_inj.1 h
 refine labels_inj ?_
 have h2 := congrArg (List.map fun x : ByteArray => x.data.toList) h1
 rw [List.map_map, List.map_map] at h2
 have : ((fun x : ByteArray => x.data.toList) ∘ mkB) = id := by funext z; exact mkB_data z
 rwa [this, List.map_id, List.map_id] at h2
theorem split32_loop (s : ByteArray) (hs : s.size < 1099511627776) : ∀ (m i a : Nat) (acc : List ByteArray), i + m = s.size → a ≤ i → (∀ x ∈ (s.data.toList.drop a).take (i - a), x ≠ 32) → acc.length ≤ a →
 spec_l1Split.l0 (m + 1) s 32 acc (a : Int) (i : Int) = some (acc ++ (splitL 32 (s.data.toList.drop a)).map mkB)
 | 0, i, a, acc, him, hai, hx, hacc => by
  unfold spec_l1Split.l0
  rw [if_neg (by omega), if_pos (by omega), if_pos (by omega), if_pos (by omega)]
  rw [List.take_of_length_le (by rw [List.length_drop, ← size_len]; omega)] at hx
  rw [splitL_none 32 _ hx, Int.toNat_natCast, ext_end]
  rfl
 | m + 1, i, a, acc, him, hai, hx, hacc => by
  have hi : i < s.data.toList.length := by rw [← size_len]; omega
  unfold spec_l1Split.l0
  rw [if_pos (by omega), if_pos (by omega), bt_list s i hi, w64n (by omega)]
  have hd : s.data.toList.drop a = (s.data.toList.drop a).take (i - a) ++ s.data.toList[i] :: s.data.toList.drop (i + 1) := by
   conv => lhs; rw [← List.take_append_drop (i - a) (s.data.toList.drop a)]
   congr 1
   rw [List.drop_drop, show a + (i - a) = i by omega, List.drop_eq_getElem_cons hi]
  by_cases h : s.data.toList[i] = 32
  · rw [if_pos (by rw [h]; rfl), if_pos (by omega), if_pos (by omega), if_pos (by omega), if_pos (by omega), Int.toNat_natCast, Int.toNat_natCast, ext_mkB]
    rw [split32_loop s hs m (i + 1) (i + 1) _ (by omega) (by omega) (by simp) (by simp; omega)]
    conv => rhs; rw [hd, h, splitL_hit 32 _ _ hx]
    simp
  · rw [if_neg (by intro e; apply h; apply UInt8.toNat_inj.1; simpa using Int.ofNat.inj e)]
    refine split32_loop s hs m (i + 1) a acc (by omega) (by omega) ?_ hacc
    intro x hm
    rw [show i + 1 - a = (i - a) + 1 by omega, List.take_add_one] at hm
    rcases List.mem_append.1 hm with hm | hm
    · exact hx x hm
    · rw [List.getElem?_drop, show a + (i - a) = i by omega, List.getElem?_eq_getElem hi] at hm
      obtain rfl : x = s.data.toList[i] := by simpa using hm
      exact h
theorem split32_ev (s : ByteArray) (hs : s.size < 1099511627776) : Ev (fun k => spec_l1Split.f k s 32) ((splitL 32 s.data.toList).map mkB) := by
 refine Ev.of (fun k => spec_l1Split.mono _ _ _) (k := s.size + 1) ?_
 unfold spec_l1Split.f
 have := split32_loop s hs s.size 0 0 [] (by omega) (by omega) (by simp) (by simp)
 simpa using this
theorem good_all {s : List UInt8} (h : goodL s = true) : (labelsL s).length ≤ 8 ∧ ∀ x ∈ labelsL s, isLabelL x = true := by
 unfold goodL at h
 simp only [Bool.and_eq_true, decide_eq_true_eq, List.all_eq_true] at h
 exact h.2
theorem big1 (n : Int) : Ev (fun k => impl_big.f k n 1) (strOfNums [n % 256]) := by
 refine Ev.of (fun k => impl_big.mono _ _ _) (k := 2) ?_
 show impl_big.f 2 n 1 = _
 simp [impl_big.f, impl_big.l0, wrap64, shr, IntKind.bits]
theorem num1 (n : Int) : Ev (fun k => spec_l3Number.f k n 1) (strOfNums [n % 256]) := by
 refine Ev.of (fun k => spec_l3Number.mono _ _ _) (k := 2) ?_
 show spec_l3Number.f 2 n 1 = _
 simp [spec_l3Number.f, spec_l3Number.l0, wrap64]
theorem big2 (n : Int) : Ev (fun k => impl_big.f k n 2) (strOfNums [n / 256 % 256, n % 256]) := by
 refine Ev.of (fun k => impl_big.mono _ _ _) (k := 3) ?_
 show impl_big.f 3 n 2 = _
 simp [impl_big.f, impl_big.l0, wrap64, shr, IntKind.bits]
theorem num2 (n : Int) : Ev (fun k => spec_l3Number.f k n 2) (strOfNums [n / 256 % 256, n % 256]) := by
 refine Ev.of (fun k => spec_l3Number.mono _ _ _) (k := 3) ?_
 show spec_l3Number.f 3 n 2 = _
 simp [spec_l3Number.f, spec_l3Number.l0, wrap64]
theorem big4 (n : Int) : Ev (fun k => impl_big.f k n 4) (strOfNums [n / 16777216 % 256, n / 65536 % 256, n / 256 % 256, n % 256]) := by
 refine Ev.of (fun k => impl_big.mono _ _ _) (k := 5) ?_
 show impl_big.f 5 n 4 = _
 simp [impl_big.f, impl_big.l0, wrap64, shr, IntKind.bits]
theorem num4 (n : Int) : Ev (fun k => spec_l3Number.f k n 4) (strOfNums [n / 16777216 % 256, n / 65536 % 256, n / 256 % 256, n % 256]) := by
 refine Ev.of (fun k => spec_l3Number.mono _ _ _) (k := 5) ?_
 show spec_l3Number.f 5 n 4 = _
 simp [spec_l3Number.f, spec_l3Number.l0, wrap64, Int.ediv_ediv_of_nonneg]
def targL (l : List UInt8) : Bool := decide (l ≠ []) && (goodL l && !l.contains 42)
theorem contains_eq (s : ByteArray) : strings_Contains.f s (⟨#[42]⟩ : ByteArray) = some (s.data.toList.contains 42) := by
 unfold strings_Contains.f strings_Index.f internal_stringslite_Index.f
 rw [if_pos (show (⟨#[42]⟩ : ByteArray).size = 1 from rfl)]
 simp only [Option.bind_some]
 rw [show List.headD (⟨#[42]⟩ : ByteArray).data.toList 0 = 42 from rfl]
 congr 1
 rcases place_or 42 s.data.toList with ⟨h1, h2⟩ | ⟨p, r, h1, h2, h3⟩
 · rw [h1]
   have : s.data.toList.contains 42 = false := by
    rw [Bool.eq_false_iff]
    intro h
    rw [List.contains_iff_mem] at h
    exact h2 42 h rfl
   rw [this]
   rfl
 · rw [h3]
   have : s.data.toList.contains 42 = true := by
    rw [List.contains_iff_mem, h1]
    simp
   rw [this]
   exact decide_eq_true (by omega)
theorem target_impl (s : ByteArray) : impl_isTarget.f s = some (targL s.data.toList) := by
 unfold impl_isTarget.f impl_GoodName.f targL
 rw [Lib.toList_data, contains_eq]
 by_cases h : s.data.toList = []
 · rw [if_pos h, decide_eq_false (by simp [h])]; rfl
 · rw [if_neg h, decide_eq_true h, Option.bind_some, Bool.true_and]
   cases goodL s.data.toList with
   | true => rfl
   | false => rfl
theorem split_mem : ∀ (l : List UInt8) (b : UInt8), b ≠ 46 → (b ∈ l ↔ ∃ p ∈ splitL 46 l, b ∈ p)
 | [], b, hb => by simp [splitL]
 | x :: xs, b, hb => by
  have ih := split_mem xs b hb
  obtain ⟨p, ps, hp⟩ := List.exists_cons_of_ne_nil (splitL_ne 46 xs)
  unfold splitL
  rw [hp] at ih ⊢
  by_cases h : x = 46
  · rw [if_pos h, List.mem_cons, ih]
    constructor
    · rintro (e | ⟨q, hq, hb2⟩)
      · exact absurd (e.trans h) hb
      · exact ⟨q, List.mem_cons_of_mem _ hq, hb2⟩
    · rintro ⟨q, hq, hb2⟩
      rcases List.mem_cons.1 hq with rfl | hq
      · cases hb2
      · exact .inr ⟨q, hq, hb2⟩
  · rw [if_neg h, List.mem_cons, ih]
    constructor
    · rintro (e | ⟨q, hq, hb2⟩)
      · exact ⟨x :: p, List.mem_cons_self, by rw [e]; exact List.mem_cons_self⟩
      · rcases List.mem_cons.1 hq with rfl | hq
        · exact ⟨x :: q, List.mem_cons_self, List.mem_cons_of_mem _ hb2⟩
        · exact ⟨q, List.mem_cons_of_mem _ hq, hb2⟩
    · rintro ⟨q, hq, hb2⟩
      rcases List.mem_cons.1 hq with rfl | hq
      · rcases List.mem_cons.1 hb2 with e | hb2
        · exact .inl e
        · exact .inr ⟨p, List.mem_cons_self, hb2⟩
      · exact .inr ⟨q, List.mem_cons_of_mem _ hq, hb2⟩
theorem star_label {s : List UInt8} (h : goodL s = true) : s.contains 42 = true ↔ ∃ p ∈ labelsL s, p = [42] := by
 rw [List.contains_iff_mem]
 unfold labelsL
 by_cases h0 : s = []
 · rw [if_pos h0, h0]; simp
 · rw [if_neg h0, split_mem s 42 (by decide)]
   have hg := (good_all h).2
   unfold labelsL at hg
   rw [if_neg h0] at hg
   constructor
   · rintro ⟨p, hp, h42⟩
     refine ⟨p, hp, ?_⟩
     have := hg p hp
     unfold isLabelL at this
     rw [Bool.or_eq_true, beq_iff_eq, Bool.and_eq_true, List.all_eq_true] at this
     rcases this with e | e
     · exact e
     · exact absurd (e.2 42 h42) (by decide)
   · rintro ⟨p, hp, rfl⟩
     exact ⟨_, hp, List.mem_cons_self⟩
theorem td_rd (l : List ByteArray) (i : Nat) (h : i < l.length) : rdOf ByteArray.empty l (i : Int) = l[i] := by
 unfold rdOf
 rw [Int.toNat_natCast, List.getD_eq_getElem?_getD, List.getElem?_eq_getElem h]
 rfl
theorem target_loop (s : ByteArray) (l : List ByteArray) (hl : l.length < 1099511627776) : ∀ (m i : Nat) (ok : Bool), i + m = l.length →
 Ev (fun k => spec_l3Target.l0 k s ok l (l.length : Int) (i : Int)) (ok && ((l.drop i).all (fun x => decide (x.data.toList ≠ [42])) && decide (s.data.toList ≠ [])))
 | 0, i, ok, him => by
  rw [List.drop_of_length_le (by omega), List.all_nil, Bool.true_and]
  refine Ev.step (f := fun _ => some (ok && decide (s.data.toList ≠ []))) (fun k => ?_) (Ev.now _)
  show spec_l3Target.l0 (k + 1) s ok l (l.length : Int) (i : Int) = _
  conv => lhs; unfold spec_l3Target.l0
  rw [if_neg (by omega), Lib.toList_data]
  cases ok with
  | true =>
   rw [if_pos rfl, Bool.true_and]
   congr 1
   by_cases h : s.data.toList = []
   · rw [h]; simp
   · rw [decide_eq_true h, bne_iff_ne.mpr h]
  | false => rfl
 | m + 1, i, ok, him => by
  have hi : i < l.length := by omega
  have ih := target_loop s l hl m (i + 1) (ok && decide (l[i].data.toList ≠ [42])) (by omega)
  have e : (ok && decide (l[i].data.toList ≠ [42]) && ((l.drop (i + 1)).all (fun x => decide (x.data.toList ≠ [42])) && decide (s.data.toList ≠ []))) = (ok && ((l.drop i).all (fun x => decide (x.data.toList ≠ [42])) && decide (s.data.toList ≠ []))) := by
   rw [List.drop_eq_getElem_cons hi]
   rw [List.all_cons]
   cases ok
   · rfl
   · rw [Bool.true_and, Bool.true_and, Bool.and_assoc]
  rw [e] at ih
  refine Ev.step (fun k => ?_) ih
  show spec_l3Target.l0 (k + 1) s ok l (l.length : Int) (i : Int) = _
  conv => lhs; unfold spec_l3Target.l0
  rw [if_pos (by omega), if_pos (by omega), if_pos (by omega), td_rd l i hi, w64n (by omega), Lib.toList_data]
  cases ok with
  | true =>
   rw [if_pos rfl, Bool.true_and]
   congr 1
   by_cases h : l[i].data.toList = [42]
   · rw [h]; simp
   · rw [decide_eq_true h, bne_iff_ne.mpr h]
  | false => rfl
theorem Ev.unique {α : Type} {g : Nat → Option α} {r r' : α} (h : Ev g r) (h' : Ev g r') : r = r' := by
 obtain ⟨K, h⟩ := h
 obtain ⟨K', h'⟩ := h'
 have h1 := h (max K K') (by omega)
 rw [h' (max K K') (by omega)] at h1
 exact (Option.some.inj h1).symm
theorem labels_short (s : ByteArray) (hs : s.size ≤ 1048576) (r : List ByteArray × Bool) (e : Ev (fun k => spec_l1Labels.f k s) r) : r.1.length < 1099511627776 := by
 by_cases h : s.data.toList = []
 · have h2 : Ev (fun k => spec_l1Labels.f k s) ([], true) := Ev.congr (fun k => by unfold spec_l1Labels.f; rw [if_pos (by rw [Lib.toList_data]; exact h)]) (Ev.now _)
   rw [Ev.unique e h2]
   simp
 · have hlen : ((splitL 46 s.data.toList).map mkB).length ≤ s.size + 1 := by rw [List.length_map, size_len]; exact splitL_len _ _
   have h2 : Ev (fun k => spec_l1Labels.f k s) (labsR s ((splitL 46 s.data.toList).map mkB) 0) := by
    refine Ev.congr (f := fun k => (spec_l1Split.f k s 46).bind fun t => spec_l1Labels.l0 k s t t (t.length : Int) 0) (fun k => ?_) (Ev.bind (split_ev s (by omega)) ?_)
    · show spec_l1Labels.f k s = _
      unfold spec_l1Labels.f
      rw [if_neg (by rw [Lib.toList_data]; exact h)]
    · refine labels_loop s _ ?_ (by omega) _ 0 (Nat.zero_add _)
      intro p hp
      obtain ⟨q, hq, rfl⟩ := List.mem_map.1 hp
      have := splitL_part 46 _ q hq
      rw [mkB_size]
      rw [← size_len] at this
      omega
   rw [Ev.unique e h2]
   unfold labsR
   split
   · split
     · show ((splitL 46 s.data.toList).map mkB).length < _; omega
     · show ((splitL 46 s.data.toList).map mkB).length < _; omega
   · simp
theorem target_spec (s : ByteArray) (hs : s.size ≤ 1048576) : Ev (fun k => spec_l3Target.f k s) (targL s.data.toList) := by
 obtain ⟨r, e1, e2, e3⟩ := labels_ev s (by omega)
 have hlen : r.1.length < 1099511627776 := by
  by_cases h : r.2 = true
  · rw [e3 h, List.length_map]
    have := (good_all (e2.symm.trans h)).1
    omega
  · exact labels_short s hs r e1
 refine Ev.congr (fun k => rfl) (Ev.bind e1 ?_)
 have := target_loop s r.1 hlen r.1.length 0 r.2 (by omega)
 rw [List.drop_zero] at this
 have et : (r.2 && (r.1.all (fun x => decide (x.data.toList ≠ [42])) && decide (s.data.toList ≠ []))) = targL s.data.toList := by
  unfold targL
  rw [e2]
  cases hg : goodL s.data.toList with
  | false => simp
  | true =>
   rw [e3 (e2.trans hg), Bool.true_and, Bool.true_and, Bool.and_comm]
   congr 1
   have h1 := star_label hg
   rw [Bool.eq_iff_iff, List.all_eq_true, Bool.not_eq_true', Bool.eq_false_iff]
   constructor
   · intro h2 h3
     obtain ⟨p, hp, rfl⟩ := h1.1 h3
     exact of_decide_eq_true (h2 (mkB [42]) (List.mem_map.2 ⟨_, hp, rfl⟩)) (mkB_data _)
   · intro h2 x hx
     refine decide_eq_true fun h3 => ?_
     obtain ⟨p, hp, rfl⟩ := List.mem_map.1 hx
     rw [mkB_data] at h3
     exact h2 (h1.2 ⟨p, hp, h3⟩)
 rw [et] at this
 exact this
end Go.Proofs.YtiegkjimpclmaaaGreatDoor.Pure
namespace Go.Proofs.YtiegkjimpclmaaaGreatDoor.P
attribute [local go_sem] max2_int min2_int max_two min_two max_three min_three max_four min_four
def impl_suffixesOf.l0 : Nat → ByteArray → List Int → Int → Option (List Int)
 | 0, _, _, _ => none
 | k + 1, x0, x3, x4 => if x4 < (x0.size : Int) then ((impl_takeName.f k x0 x4).bind fun bt1013 => (if bt1013.2.2.2 = true then (if x3.length + bt1013.2.1.length < 17592186044416 then (impl_suffixesOf.l0 k x0 (x3 ++ bt1013.2.1) bt1013.2.2.1) else (none)) else (some x3))) else (some x3)
def impl_suffixesOf.f (k : Nat) (a0 : ByteArray) : Option (List Int) := impl_suffixesOf.l0 k a0 (([] : List Int)) 0
theorem impl_suffixesOf.mono_l : ∀ k, (∀ y0 y1 y2, LeO (impl_suffixesOf.l0 k y0 y1 y2) (impl_suffixesOf.l0 (k + 1) y0 y1 y2))
 | 0 => fun _ _ _ r h => by simp [impl_suffixesOf.l0] at h
 | k + 1 => by
  have ih0 := impl_suffixesOf.mono_l k
  · intro y0 y1 y2
    unfold impl_suffixesOf.l0
    repeat' first | (with_reducible first | exact ih0 _ _ _ | exact impl_takeName.mono _ _ _ | exact LeO.refl _ | exact LeO.none _ | refine LeO.ite ?_ ?_ | refine LeO.bind ?_ (fun _ => ?_)) | exact LeO.none _ | refine LeO.ite ?_ ?_ | refine LeO.bind ?_ (fun _ => ?_)
theorem impl_suffixesOf.mono : ∀ a0 k, LeO (impl_suffixesOf.f k a0) (impl_suffixesOf.f (k + 1) a0) := by
 intro a0 k
 have ih0 := impl_suffixesOf.mono_l k
 unfold impl_suffixesOf.f
 repeat' first | (with_reducible first | exact ih0 _ _ _ | exact impl_takeName.mono _ _ _ | exact LeO.refl _ | exact LeO.none _ | refine LeO.ite ?_ ?_ | refine LeO.bind ?_ (fun _ => ?_)) | exact LeO.none _ | refine LeO.ite ?_ ?_ | refine LeO.bind ?_ (fun _ => ?_)
theorem impl_suffixesOf.calls (k : Nat) (a0 : ByteArray) (r : List Int) (w : World) (h : impl_suffixesOf.f k a0 = some r) :
 Calls Tryz.prog 240 #[.string a0] w fun e w' => ∃ v0_ : Value, e = .returned (v0_) ∧ Kd.R (Kd.int .i64) 3 w' w.heap.size (fun _ => True) v0_ r ∧ Below w.heap.size w w' := by
 have HB := a0_ (Below.refl w.heap.size w)
 have H := h
 clear h
 unfold impl_suffixesOf.f at H
 obtain ⟨y1010, hy1010⟩ : ∃ y_ : List Int, y_ = (([] : List Int)) := ⟨_, rfl⟩
 replace H : (impl_suffixesOf.l0 k a0 y1010 0) = some r := by first | (rw [hy1010]; with_reducible exact H) | (have H2_ := (Option.bind_some _ _).symm.trans H; rw [hy1010]; with_reducible exact H2_) | (have H2_ := (Option.bind_some _ _).symm.trans H; with_reducible exact H2_) | with_reducible exact H | (rw [hy1010]; exact H) | exact H
 have Ny1010 := a0_ hy1010
 clear hy1010
 have H' := a0_ H
 clear H
 go_enter Tryz.func240, Tryz.ntmps240
 go_wp2_with (first | ((with_reducible refine gate_dst (N := 9) rfl ?_); refine Kd.R_lit (Kd.int .i64) _ 3 ?hg (N := 9) ?hd (xs := ([] : List Int)) (inner := []) (ok := fun _ => True) (okp := fun _ => True) ?hr ?hp (fun _ hk => hk) trivial (Below.refl _ _) (Nat.le_refl _) (by simp) ?_; (case hd => rfl); (case hg => rfl); (case hr => first | (go_simp; done) | (go_simp; rfl)); (case hp => exact (Reps.none _ _)); intro v1011 w2 ho3 hb hg_ hnew_; clear hg_ hnew_; (first | rw [← Ny1010.out] at ho3 | (simp only [Int.reduceToNat] at ho3; rw [← Ny1010.out] at ho3)); have HO1012 := a0_ (Kd.R_lower ho3 (below_size bq0_)); replace HB := a0_ (below_step bq0_ hb); clear hb ho3))
 go_loopg [3, 4] k (fun kq v3 v4 w' => ∃ (x3_1 : List Int) (x4_1 : Int), v4 = .int .i64 x4_1 ∧ Aside0 (impl_suffixesOf.l0 kq a0 x3_1 x4_1 = some r) ∧ Aside0 (kq ≤ k) ∧ Aside0 (Kd.R (Kd.int .i64) 3 w' w.heap.size (fun _ => True) v3 x3_1) ∧ Aside0 (Below w.heap.size w w'))
 case atStart => exact ⟨(y1010), (0), rs_, H', ⟨Nat.le_refl _⟩, ⟨kR_ HO1012.out⟩, ⟨bq0_⟩⟩
 case round =>
  clear H'
  obtain ⟨x3_1, x4_1, rfl, HA, HK1, HO_3, HB⟩ := hrel
  cases gk with
  | zero => exact absurd HA.out (by simp [impl_suffixesOf.l0])
  | succ k1 =>
   have H := HA.out
   clear HA
   simp only [impl_suffixesOf.l0] at H
   by_cases c4 : x4_1 < (a0.size : Int)
   case neg =>
    rw [if_neg c4] at H
    have c4b0 := decide_eq_false c4
    clear c4
    obtain rfl := Option.some.inj H
    go_wp2
    go_ret
    exact ⟨_, rr_, kR_ HO_3.out, bq0_⟩
   rw [if_pos c4] at H
   have c4b0 := decide_eq_true c4
   clear c4
   obtain ⟨⟨t1013, t1014, t1015, t1016⟩, A5, H⟩ := ob_ H
   by_cases c6 : t1016 = true
   case neg =>
    replace c6 := Bool.eq_false_iff.mpr c6
    subst c6
    rw [if_neg ff_] at H
    obtain rfl := Option.some.inj H
    go_wp2_with (first | ((with_reducible refine gt_ 125 rfl ?_); refine gs_ 17 Tryz.func125 #[.string a0, .int .i64 x4_1] ?_; (with_reducible refine (impl_takeName.calls k1 a0 x4_1 t1013 t1014 t1015 false _ A5.out).mono ?_); rintro e w11 ⟨v1017, rfl, ho0, hb⟩; refine ⟨_, rfl, ?_⟩; have HO1018 := a0_ (Kd.R_lower (Kd.R_new' ho0 (Kd.R_lt (kR_ HO_3.out))) (below_size bq0_)); replace HO_3 := a0_ (Kd.R_elder' (kR_ HO_3.out) (Kd.R_base ho0) hb); replace HB := a0_ (below_step bq0_ hb); clear hb; (try clear ho0)))
    go_ret
    exact ⟨_, rr_, by (with_reducible repeat (first | apply Kd.R_alloc | apply Kd.R_drewN | apply Kd.R_drew)); exact Kd.R_mono HO_3.out (fun _ hk => trivial), bq0_⟩
   subst c6
   rw [if_pos rfl] at H
   by_cases c7 : x3_1.length + t1014.length < 17592186044416
   case neg =>
    rw [if_neg c7] at H
    exact absurd H (by simp)
   rw [if_pos c7] at H
   have LMc7 := a0_ c7
   clear c7
   obtain ⟨y1019, hy1019⟩ : ∃ y_ : List Int, y_ = (x3_1 ++ t1014) := ⟨_, rfl⟩
   replace H : (impl_suffixesOf.l0 k1 a0 y1019 t1015) = some r := by first | (rw [hy1019]; with_reducible exact H) | (have H2_ := (Option.bind_some _ _).symm.trans H; rw [hy1019]; with_reducible exact H2_) | (have H2_ := (Option.bind_some _ _).symm.trans H; with_reducible exact H2_) | with_reducible exact H | (rw [hy1019]; exact H) | exact H
   have Ny1019 := a0_ hy1019
   clear hy1019
   have H' := a0_ H
   clear H
   go_wp2_with (first | ((with_reducible refine gt_ 125 rfl ?_); refine gs_ 17 Tryz.func125 #[.string a0, .int .i64 x4_1] ?_; (with_reducible refine (impl_takeName.calls k1 a0 x4_1 t1013 t1014 t1015 true _ A5.out).mono ?_); rintro e w8 ⟨v1017, rfl, ho0, hb⟩; refine ⟨_, rfl, ?_⟩; have HO1018 := a0_ (Kd.R_lower (Kd.R_new' ho0 (Kd.R_lt (kR_ HO_3.out))) (below_size bq0_)); replace HO_3 := a0_ (Kd.R_elder' (kR_ HO_3.out) (Kd.R_base ho0) hb); replace HB := a0_ (below_step bq0_ hb); clear hb; (try clear ho0); obtain ⟨Ao10, co10, eo10⟩ := Kd.R_slice HO1018.out; subst eo10) | ((with_reducible refine gate_builtin (b := .append) (xs := #[.tmp 24, .tmp 25]) rfl ?_); at_builtin; refine Kd.R_append_rows (Kd.int .i64) (w0 := w) w.heap.size rfl (.tmp 24) (.tmp 25) 131 3 (.int .i64 0) 8 rfl Tryz.underlying131 info3 rfl (by decide) (by omega) u3 x3_1 t1014 _ _ _ (fun k_ => nw_ k_ Ao10 t1014.length co10) (fun _ => False) rfl rfl ?aO ?aR (fun _ _ h => h) (fun _ h => h.elim) ?aF ?aB ?aS ?aL ?_; (case aR => repeat (first | exact (Kd.R_reads' HO1018.out).2.2 | (with_reducible refine Kd.C_alloc ?_ _) | (with_reducible refine Kd.C_drewN ?_ _) | (with_reducible refine Kd.C_drew ?_))); (case aB => exact bq0_); (case aF => exact (fun k_ hk => Kd.fresh' (Kd.R_lt (kR_ HO1018.out)) k_ hk)); (case aO => exact (kR_ (Kd.R_mono HO_3.out (fun _ hk => hk.2)))); (case aS => exact (below_size bq0_)); (case aL => have := LMc7.out; omega); intro v1020 w9 ho hb hg hat; rw [← Ny1019.out] at ho; replace HO1018 := a0_ (Kd.R_after (ok := (fun _ => True)) (kR_ HO1018.out) hg hat); replace HB := a0_ (hb); have HO1021 := a0_ (ho); clear HO_3; clear ho hb hg hat))
   go_roundg k1
   case measure => have := HK1.out; omega
   case rel => exact ⟨(y1019), (t1015), rs_, H', jl_ HK1, ⟨kR_ (Kd.R_mono HO1021.out (fun _ hk => trivial))⟩, ⟨bq0_⟩⟩
def spec_l2Suffixes.l0 : Nat → ByteArray → List Int → Int → Option (List Int)
 | 0, _, _, _ => none
 | k + 1, x0, x3, x4 => if x4 < (x0.size : Int) then ((spec_l2Take.f k x0 x4).bind fun bt905 => (if bt905.2.2.2 = true then (if x3.length + bt905.2.2.1.length < 17592186044416 then (spec_l2Suffixes.l0 k x0 (x3 ++ bt905.2.2.1) bt905.2.1) else (none)) else (some x3))) else (some x3)
def spec_l2Suffixes.f (k : Nat) (a0 : ByteArray) : Option (List Int) := spec_l2Suffixes.l0 k a0 ([] : List Int) 0
theorem spec_l2Suffixes.calls (k : Nat) (a0 : ByteArray) (r : List Int) (w : World) (h : spec_l2Suffixes.f k a0 = some r) :
 Calls Tryz.prog 237 #[.string a0] w fun e w' => ∃ v0_ : Value, e = .returned (v0_) ∧ Kd.R (Kd.int .i64) 3 w' w.heap.size (fun _ => True) v0_ r ∧ Below w.heap.size w w' := by
 have HB := a0_ (Below.refl w.heap.size w)
 have H := h
 clear h
 unfold spec_l2Suffixes.f at H
 have H' := a0_ H
 clear H
 go_enter Tryz.func237, Tryz.ntmps237
 go_wp2
 go_loopg [3, 4] k (fun kq v3 v4 w' => ∃ (x3_1 : List Int) (x4_1 : Int), v4 = .int .i64 x4_1 ∧ Aside0 (spec_l2Suffixes.l0 kq a0 x3_1 x4_1 = some r) ∧ Aside0 (kq ≤ k) ∧ Aside0 (Kd.R (Kd.int .i64) 3 w' w.heap.size (fun _ => True) v3 x3_1) ∧ Aside0 (Below w.heap.size w w'))
 case atStart => exact ⟨(([] : List Int)), (0), rs_, H', ⟨Nat.le_refl _⟩, ⟨by first | exact Kd.R_nil _ _ _ _ _ | exact Kd.N_nil _ _ _ _ _ | exact Kd.V_nil _ _ _ _ _ | exact Kd.Q_nil _ _ _ _ _ | exact Kd.S_nil _ _ _ _ _⟩, ⟨bq0_⟩⟩
 case round =>
  clear H'
  obtain ⟨x3_1, x4_1, rfl, HA, HK1, HO_3, HB⟩ := hrel
  cases gk with
  | zero => exact absurd HA.out (by simp [spec_l2Suffixes.l0])
  | succ k1 =>
   have H := HA.out
   clear HA
   simp only [spec_l2Suffixes.l0] at H
   by_cases c2 : x4_1 < (a0.size : Int)
   case neg =>
    rw [if_neg c2] at H
    have c2b0 := decide_eq_false c2
    clear c2
    obtain rfl := Option.some.inj H
    go_wp2
    go_ret
    exact ⟨_, rr_, kR_ HO_3.out, bq0_⟩
   rw [if_pos c2] at H
   have c2b0 := decide_eq_true c2
   clear c2
   obtain ⟨⟨t905, t906, t907, t908⟩, A3, H⟩ := ob_ H
   by_cases c4 : t908 = true
   case neg =>
    replace c4 := Bool.eq_false_iff.mpr c4
    subst c4
    rw [if_neg ff_] at H
    obtain rfl := Option.some.inj H
    go_wp2_with (first | ((with_reducible refine gt_ 115 rfl ?_); refine gs_ 16 Tryz.func115 #[.string a0, .int .i64 x4_1] ?_; (with_reducible refine (spec_l2Take.calls k1 a0 x4_1 t905 t906 t907 false _ A3.out).mono ?_); rintro e w9 ⟨v909, rfl, ho0, hb⟩; refine ⟨_, rfl, ?_⟩; have HO910 := a0_ (Kd.R_lower (Kd.R_new' ho0 (Kd.R_lt (kR_ HO_3.out))) (below_size bq0_)); replace HO_3 := a0_ (Kd.R_elder' (kR_ HO_3.out) (Kd.R_base ho0) hb); replace HB := a0_ (below_step bq0_ hb); clear hb; (try clear ho0)))
    go_ret
    exact ⟨_, rr_, by (with_reducible repeat (first | apply Kd.R_alloc | apply Kd.R_drewN | apply Kd.R_drew)); exact Kd.R_mono HO_3.out (fun _ hk => trivial), bq0_⟩
   subst c4
   rw [if_pos rfl] at H
   by_cases c5 : x3_1.length + t907.length < 17592186044416
   case neg =>
    rw [if_neg c5] at H
    exact absurd H (by simp)
   rw [if_pos c5] at H
   have LMc5 := a0_ c5
   clear c5
   obtain ⟨y911, hy911⟩ : ∃ y_ : List Int, y_ = (x3_1 ++ t907) := ⟨_, rfl⟩
   replace H : (spec_l2Suffixes.l0 k1 a0 y911 t906) = some r := by first | (rw [hy911]; with_reducible exact H) | (have H2_ := (Option.bind_some _ _).symm.trans H; rw [hy911]; with_reducible exact H2_) | (have H2_ := (Option.bind_some _ _).symm.trans H; with_reducible exact H2_) | with_reducible exact H | (rw [hy911]; exact H) | exact H
   have Ny911 := a0_ hy911
   clear hy911
   have H' := a0_ H
   clear H
   go_wp2_with (first | ((with_reducible refine gt_ 115 rfl ?_); refine gs_ 16 Tryz.func115 #[.string a0, .int .i64 x4_1] ?_; (with_reducible refine (spec_l2Take.calls k1 a0 x4_1 t905 t906 t907 true _ A3.out).mono ?_); rintro e w6 ⟨v909, rfl, ho0, hb⟩; refine ⟨_, rfl, ?_⟩; have HO910 := a0_ (Kd.R_lower (Kd.R_new' ho0 (Kd.R_lt (kR_ HO_3.out))) (below_size bq0_)); replace HO_3 := a0_ (Kd.R_elder' (kR_ HO_3.out) (Kd.R_base ho0) hb); replace HB := a0_ (below_step bq0_ hb); clear hb; (try clear ho0); obtain ⟨Ao8, co8, eo8⟩ := Kd.R_slice HO910.out; subst eo8) | ((with_reducible refine gate_builtin (b := .append) (xs := #[.tmp 23, .tmp 24]) rfl ?_); at_builtin; refine Kd.R_append_rows (Kd.int .i64) (w0 := w) w.heap.size rfl (.tmp 23) (.tmp 24) 131 3 (.int .i64 0) 8 rfl Tryz.underlying131 info3 rfl (by decide) (by omega) u3 x3_1 t907 _ _ _ (fun k_ => nw_ k_ Ao8 t907.length co8) (fun _ => False) rfl rfl ?aO ?aR (fun _ _ h => h) (fun _ h => h.elim) ?aF ?aB ?aS ?aL ?_; (case aR => repeat (first | exact (Kd.R_reads' HO910.out).2.2 | (with_reducible refine Kd.C_alloc ?_ _) | (with_reducible refine Kd.C_drewN ?_ _) | (with_reducible refine Kd.C_drew ?_))); (case aB => exact bq0_); (case aF => exact (fun k_ hk => Kd.fresh' (Kd.R_lt (kR_ HO910.out)) k_ hk)); (case aO => exact (kR_ (Kd.R_mono HO_3.out (fun _ hk => hk.2)))); (case aS => exact (below_size bq0_)); (case aL => have := LMc5.out; omega); intro v912 w7 ho hb hg hat; rw [← Ny911.out] at ho; replace HO910 := a0_ (Kd.R_after (ok := (fun _ => True)) (kR_ HO910.out) hg hat); replace HB := a0_ (hb); have HO913 := a0_ (ho); clear HO_3; clear ho hb hg hat))
   go_roundg k1
   case measure => have := HK1.out; omega
   case rel => exact ⟨(y911), (t906), rs_, H', jl_ HK1, ⟨kR_ (Kd.R_mono HO913.out (fun _ hk => trivial))⟩, ⟨bq0_⟩⟩
end Go.Proofs.YtiegkjimpclmaaaGreatDoor.P
namespace Go.Proofs.YtiegkjimpclmaaaGreatDoor.P
def encR (x : S45) : Value := .agg #[.string x.f0, .int .i64 x.f1, .int .i64 x.f2, .string x.f3]
def PredR (g : Nat) (cb : Array Value) (p : S45 → Bool) (xs : List (S45)) (w : World) : Prop :=
 ∀ (j : Nat) (x : S45), xs[j]? = some x → (∀ (i : Nat) (y : S45), i < j → xs[i]? = some y → p y = false) → ∀ W, Below w.heap.size w W → Calls Tryz.prog g (#[encR x] ++ cb) W fun e W' => e = .returned (.bool (p x)) ∧ Below W.heap.size W W'
theorem index_rec (A : Option Addr) (c : Nat) (xs : List (S45)) (g : Nat) (cb : Array Value) (p : S45 → Bool) (w : World) (hr : Kd.C k45 w A xs.length xs)
 (eg : ∀ args w, (callFunc g args).run Tryz.prog w = .ok (.enter g args) w) (hp : PredR g cb p xs w) :
 Calls Tryz.prog 180 #[.slice A xs.length c, .func (.func g) #[] cb] w fun e w' => e = .returned (.int .i64 (idxP p xs 0)) ∧ Below w.heap.size w w' := by
 have hbig : xs.length ≤ 9223372036854775807 := hr.2.1
 go_enter Tryz.func180, Tryz.ntmps180
 go_wp2
 go_loopg [5, 8] xs.length (fun gg _ s8 wr => ∃ kk : Nat, kk ≤ xs.length ∧ xs.length - kk ≤ gg ∧ s8 = .int .i64 kk ∧ Aside0 (Below w.heap.size w wr) ∧ Aside0 (∀ j y, j < kk → xs[j]? = some y → p y = false))
 case atStart => exact ⟨0, Nat.zero_le _, by omega, rfl, ⟨Below.refl _ w⟩, ⟨fun j y hj => absurd hj (Nat.not_lt_zero _)⟩⟩
 case round =>
  obtain ⟨kk, hkk, hg, rfl, BW, AA⟩ := hrel
  by_cases hlt : kk < xs.length
  · have hltz : (kk : Int) < (xs.length : Int) := by omega
    obtain ⟨ad, e0, hx0, hx1, hx2, hx3⟩ := at_T45 hr (kk : Int) (by omega) hltz
    cases e0
    have l0 := (BW.out.cell (World.block_lt_of_cell? _ _ hx0)).trans hx0
    have l1 := (BW.out.cell (World.block_lt_of_cell? _ _ hx1)).trans hx1
    have l2 := (BW.out.cell (World.block_lt_of_cell? _ _ hx2)).trans hx2
    have l3 := (BW.out.cell (World.block_lt_of_cell? _ _ hx3)).trans hx3
    clear hx0 hx1 hx2 hx3
    simp only [Int.toNat_natCast] at l0 l1 l2 l3
    have hmem : xs[kk]? = some (rd_T45 xs kk) := by
     rw [List.getElem?_eq_getElem hlt]; simp [rd_T45, List.getElem?_eq_getElem hlt]
    have hcall := hp kk (rd_T45 xs kk) hmem AA.out wr BW.out
    clear hp
    generalize hy : rd_T45 xs kk = y at l0 l1 l2 l3 hcall hmem
    have B := Aside0.mk hmem
    clear hmem hy
    have hkn : ((kk : Int)).toNat = kk := by omega
    unfold encR at hcall
    cases hq : p y with
    | true =>
     rw [hq] at hcall
     go_wp2_with (go_at_fn g; refine hcall.mono ?_; rintro e w' ⟨rfl, hb'⟩)
     go_ret
     refine ⟨?_, below_then BW.out BW.out.size hb'⟩
     rw [idxP_hit p xs 0 kk y B.out hq AA.out]
     simp
    | false =>
     rw [hq] at hcall
     go_wp2_with (go_at_fn g; refine hcall.mono ?_; rintro e w' ⟨rfl, hb'⟩)
     go_roundg (xs.length - (kk + 1))
     case measure => omega
     case rel =>
      refine ⟨kk + 1, by omega, by omega, by go_num, ⟨below_then BW.out BW.out.size hb'⟩, ⟨fun j z hj hz => ?_⟩⟩
      by_cases e : j = kk
      · subst e
        rw [B.out] at hz
        cases hz
        exact hq
      · exact AA.out j z (by omega) hz
  · have hltz : ¬ (kk : Int) < (xs.length : Int) := by omega
    have hm : idxP p xs 0 = -1 := idxP_miss p xs 0 (fun y hy => by obtain ⟨j, hj, e⟩ := List.mem_iff_getElem.1 hy; exact AA.out j y (by omega) (by rw [List.getElem?_eq_getElem hj, e]))
    have HM := Aside0.mk hm
    clear hm
    go_wp2
    go_ret
    exact ⟨by rw [HM.out]; rfl, BW.out⟩
theorem contains_rec (A : Option Addr) (c : Nat) (xs : List (S45)) (g : Nat) (cb : Array Value) (p : S45 → Bool) (w : World) (hr : Kd.C k45 w A xs.length xs)
 (eg : ∀ args w, (callFunc g args).run Tryz.prog w = .ok (.enter g args) w) (hp : PredR g cb p xs w) :
 Calls Tryz.prog 135 #[.slice A xs.length c, .func (.func g) #[] cb] w fun e w' => e = .returned (.bool (xs.any p)) ∧ Below w.heap.size w w' := by
 rw [← idxP_any p xs 0 (by omega)]
 go_enter Tryz.func135, Tryz.ntmps135
 go_wp2_with (go_at_call 180; refine (index_rec A c xs g cb p _ hr eg hp).mono ?_; rintro e w' ⟨rfl, hb'⟩)
 go_ret
 exact ⟨rfl, hb'⟩
def impl_areRecords.f (k : Nat) : List (S45) → Option Bool
 | [] => some true
 | x :: xs => (impl_GoodRecord.f k x.f0 x.f1 x.f2 x.f3).bind fun g => (if g = true then impl_areRecords.f k xs else some false)
def badP (k : Nat) (x : S45) : Bool := !((impl_GoodRecord.f k x.f0 x.f1 x.f2 x.f3).getD false)
theorem are_at (k : Nat) : ∀ (xs : List (S45)) (r : Bool), impl_areRecords.f k xs = some r → ∀ (j : Nat) (x : S45), xs[j]? = some x → (∀ (i : Nat) (y : S45), i < j → xs[i]? = some y → badP k y = false) → impl_GoodRecord.f k x.f0 x.f1 x.f2 x.f3 = some (!badP k x)
 | [], r, h, j, x, hj, hb => by simp at hj
 | z :: xs, r, h, j, x, hj, hb => by
  unfold impl_areRecords.f at h
  obtain ⟨g, hg, h⟩ := Option.bind_eq_some_iff.mp h
  cases j with
  | zero =>
   obtain rfl : z = x := by simpa using hj
   unfold badP
   rw [hg, Option.getD_some, Bool.not_not]
  | succ j =>
   have h0 := hb 0 z (by omega) (by simp)
   unfold badP at h0
   rw [hg, Option.getD_some] at h0
   have hgt : g = true := by cases g with
    | true => rfl
    | false => cases h0
   rw [if_pos hgt] at h
   exact are_at k xs r h j x (by simpa using hj) fun i y hi hy => hb (i + 1) y (by omega) (by simpa using hy)
theorem are_any (k : Nat) : ∀ (xs : List (S45)) (r : Bool), impl_areRecords.f k xs = some r → xs.any (badP k) = !r
 | [], r, h => by
  obtain rfl := Option.some.inj h
  rfl
 | z :: xs, r, h => by
  unfold impl_areRecords.f at h
  obtain ⟨g, hg, h⟩ := Option.bind_eq_some_iff.mp h
  rw [List.any_cons]
  unfold badP
  rw [hg, Option.getD_some]
  cases g with
  | true =>
   rw [if_pos rfl] at h
   exact are_any k xs r h
  | false =>
   rw [if_neg (by decide)] at h
   obtain rfl := Option.some.inj h
   rfl
set_option maxHeartbeats 4000000 in
theorem impl_areRecords.calls (k : Nat) (A0 : Option Addr) (c0 : Nat) (l0 : List (S45)) (r : Bool) (w : World) (hr0 : Kd.C k45 w A0 l0.length l0) (hc0 : l0.length ≤ c0) (h : impl_areRecords.f k l0 = some r)
 (hv_ : Vars w := by first | assumption | (refine Vars.below (Aside0.out (by assumption)) ?_; repeat (first | (with_reducible first | exact Below.refl _ _ | exact Aside0.out (by assumption) | apply below_alloc | apply pw_below_drewN | apply below_drew1) | exact Aside0.out (by assumption)))) :
 Calls Tryz.prog 74 #[.slice A0 l0.length c0] w fun e w' => e = .returned (.bool r) ∧ Below w.heap.size w w' := by
 have eg : ∀ args w, (callFunc 136 args).run Tryz.prog w = .ok (.enter 136 args) w := enters_of Tryz.func136 (by kernel_rfl) rfl
 have cc := contains_rec A0 c0 l0 136 #[] (badP k) w hr0 eg (fun j x hj hb W hW =>
  impl_areRecords_1.calls k x.f0 x.f1 x.f2 x.f3 (badP k x) W (by unfold impl_areRecords_1.f; rw [are_at k l0 r h j x hj hb, Option.bind_some, Bool.not_not]) (Vars.below hv_ hW))
 rw [are_any k l0 r h] at cc
 clear h hv_
 go_enter Tryz.func74, Tryz.ntmps74
 go_wp2_with (go_at_call 135; refine cc.mono ?_; rintro e w1 ⟨rfl, hb⟩)
 go_ret
 exact ⟨by simp, hb⟩
end Go.Proofs.YtiegkjimpclmaaaGreatDoor.P
