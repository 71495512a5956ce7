/- FnSets: part 14 of 15 of my texts for this claim, joined; the theorem stands in the last. Conditions: none beyond the statement's. -/
import Derived.Test.YtiegkjimpclmaaaGreatDoorMFnSetsx12
open Go.RowKit Go.Proofs.YtiegkjimpclmaaaGreatDoorW.PrintWords Go.Proofs.YtiegkjimpclmaaaGreatDoorW.PrintLast Go.Proofs.YtiegkjimpclmaaaGreatDoorW.PrintMore
set_option linter.unusedVariables false
set_option linter.unusedSimpArgs false
set_option maxHeartbeats 8000000
set_option maxRecDepth 100000
namespace Go.Proofs.YtiegkjimpclmaaaGreatDoor.P
attribute [local go_sem] max2_int min2_int max_two min_two max_three min_three max_four min_four
attribute [local go_sem high] eqA45
mutual
noncomputable def laws_FnSets.j0 : Nat → List Int → List (S45) → List (S83) → Bool → Bool → Option (Bool)
 | 0, _, _, _, _, _ => none
 | k + 1, x1, x5, x6, x7, x52 => if x52 = true then (some false) else (if x7 = true then ((impl_RecordsOf.f k x6).bind fun bt1242 => ((impl_SetsOf.f k bt1242.1).bind fun bt1246 => (if bt1242.2 = true then (if bt1246.2 = true then ((laws_sameSets.f k bt1246.1 x6).bind fun t1250 => (if t1250 = true then (laws_FnSets.j1 k x1 x5 bt1242.1 (decide ((bt1242.1.length : Int) > (x5.length : Int)))) else (laws_FnSets.j1 k x1 x5 bt1242.1 true))) else (laws_FnSets.j1 k x1 x5 bt1242.1 true)) else (laws_FnSets.j1 k x1 x5 bt1242.1 true)))) else (laws_FnSets.j4 k x1))
noncomputable def laws_FnSets.j4 : Nat → List Int → Option (Bool)
 | 0, _ => none
 | k + 1, x1 => (spec_DrawRecordsOf.f k x1).bind fun t1258 => ((impl_RecordsOf.f k t1258).bind fun bt1261 => ((spec_RecordsOf.f k t1258).bind fun bt1265 => (if (bt1261.2 == bt1265.2) = true then ((laws_sameRecords.f k bt1261.1 bt1265.1).bind fun t1269 => (some t1269)) else (some false))))
noncomputable def laws_FnSets.j1 : Nat → List Int → List (S45) → List (S45) → Bool → Option (Bool)
 | 0, _, _, _, _ => none
 | k + 1, x1, x5, x10, x82 => if x82 = true then (some false) else (laws_FnSets.l0 k x1 x5 x10 x10 (x10.length : Int) 0)
noncomputable def laws_FnSets.l0 : Nat → List Int → List (S45) → List (S45) → List (S45) → Int → Int → Option (Bool)
 | 0, _, _, _, _, _, _ => none
 | k + 1, x1, x5, x10, x83, x84, x85 => if x85 < x84 then (if 0 ≤ x85 then (if x85 < (x83.length : Int) then (laws_FnSets.l1 k x1 x5 x10 x85 false x83 x84 x85 x5 (x5.length : Int) 0 ((rd_T45 x83 x85).f0) ((rd_T45 x83 x85).f1) ((rd_T45 x83 x85).f2) ((rd_T45 x83 x85).f3)) else (none)) else (none)) else (laws_FnSets.j4 k x1)
noncomputable def laws_FnSets.l1 : Nat → List Int → List (S45) → List (S45) → Int → Bool → List (S45) → Int → Int → List (S45) → Int → Int → ByteArray → Int → Int → ByteArray → Option (Bool)
 | 0, _, _, _, _, _, _, _, _, _, _, _, _, _, _, _ => none
 | k + 1, x1, x5, x10, x14, x16, x83, x84, x85, x90, x91, x92, x1253000, x1253001, x1253002, x1253003 => if x92 < x91 then (if 0 ≤ x92 then (if x92 < (x90.length : Int) then (if x16 = true then (laws_FnSets.l1 k x1 x5 x10 x14 true x83 x84 x85 x90 x91 (wrap64 (x92 + 1)) x1253000 x1253001 x1253002 x1253003) else (laws_FnSets.l1 k x1 x5 x10 x14 ((((rd_T45 x90 x92).f0).toList) == x1253000.toList && (((rd_T45 x90 x92).f1) == x1253001 && (((rd_T45 x90 x92).f2) == x1253002 && ((((rd_T45 x90 x92).f3).toList) == x1253003.toList)))) x83 x84 x85 x90 x91 (wrap64 (x92 + 1)) x1253000 x1253001 x1253002 x1253003)) else (none)) else (none)) else (if x16 = true then (if x14 > 0 then (if 0 ≤ (wrap64 (x14 - 1)) then (if (wrap64 (x14 - 1)) < (x10.length : Int) then ((impl_CompareRecords.f k ((rd_T45 x10 (wrap64 (x14 - 1))).f0) ((rd_T45 x10 (wrap64 (x14 - 1))).f1) ((rd_T45 x10 (wrap64 (x14 - 1))).f2) ((rd_T45 x10 (wrap64 (x14 - 1))).f3) x1253000 x1253001 x1253002 x1253003).bind fun bt1256 => (if bt1256.2 = true then (if bt1256.1 = (-1) then (laws_FnSets.l0 k x1 x5 x10 x83 x84 (wrap64 (x85 + 1))) else (some false)) else (some false))) else (none)) else (none)) else (laws_FnSets.l0 k x1 x5 x10 x83 x84 (wrap64 (x85 + 1)))) else (some false))
end
noncomputable def laws_FnSets.f (k : Nat) (l0 : List Int) (l1 : List Int) : Option (Bool) := if (wrap64 ((l0.length : Int) + (l1.length : Int))) > 1048576 then (some true) else ((spec_DrawSetsOf.f k l0).bind fun t1230 => ((impl_SetsOf.f k t1230).bind fun bt1233 => ((spec_SetsOf.f k t1230).bind fun bt1237 => (if (bt1233.2 != bt1237.2) = true then (laws_FnSets.j0 k l1 t1230 bt1233.1 bt1233.2 true) else ((laws_sameSets.f k bt1233.1 bt1237.1).bind fun t1241 => (laws_FnSets.j0 k l1 t1230 bt1233.1 bt1233.2 (!t1241)))))))
def laws_FnSets.T25 : Bool × List (List Nat × List Nat) := (true, [([], []), ([], []), ([1], [1]), ([0, 2], [0, 2]), ([3], [3]), ([], []), ([4, 5], [4, 5]), ([6], [6]), ([7], [7]), ([7], [7]), ([8, 6, 0, 1, 2, 3, 4, 5, 6, 7, 8], [8]), ([9, 10, 0, 1, 2, 3, 4, 5, 6, 7, 8, 9, 10], [9])])
def laws_FnSets.B25 : List Nat := [0, 0, 2, 7, 15, 0, 63, 127, 255, 255, 511, 2047]
theorem laws_FnSets.tab25 : rtab .any (opsOf Tryz.f8 25) = laws_FnSets.T25 := by kernel_rfl
theorem laws_FnSets.bits25 : waitsOk laws_FnSets.T25.2 laws_FnSets.B25 = true := by kernel_rfl
theorem laws_FnSets.calls (k : Nat) (A0 : Option Addr) (c0 : Nat) (l0 : List Int) (A1 : Option Addr) (c1 : Nat) (l1 : List Int) (r : Bool) (w : World) (hr0 : Kd.C (Kd.int .u8) w A0 l0.length l0) (hc0 : l0.length ≤ c0) (hr1 : Kd.C (Kd.int .u8) w A1 l1.length l1) (hc1 : l1.length ≤ c1) (h : laws_FnSets.f k l0 l1 = some r) (hv_ : Vars w := by exact vv_) :
 Calls Tryz.prog 8 #[.slice A0 l0.length c0, .slice A1 l1.length c1] w fun e w' => e = .returned (.bool r) ∧ Below w.heap.size w w' := by
 have HV_ := a0_ hv_
 clear hv_
 have hu45 := Tryz.underlying45
 have HR0 := a0_ hr0
 have HC0 := a0_ hc0
 clear hr0 hc0
 have HR1 := a0_ hr1
 have HC1 := a0_ hc1
 clear hr1 hc1
 have HB := a0_ (Below.refl w.heap.size w)
 have H : (if (wrap64 ((l0.length : Int) + (l1.length : Int))) > 1048576 then (some true) else ((spec_DrawSetsOf.f k l0).bind fun t1230 => ((impl_SetsOf.f k t1230).bind fun bt1233 => ((spec_SetsOf.f k t1230).bind fun bt1237 => (if (bt1233.2 != bt1237.2) = true then (laws_FnSets.j0 k l1 t1230 bt1233.1 bt1233.2 true) else ((laws_sameSets.f k bt1233.1 bt1237.1).bind fun t1241 => (laws_FnSets.j0 k l1 t1230 bt1233.1 bt1233.2 (!t1241)))))))) = some r := h
 clear h
 by_cases c3 : (wrap64 ((l0.length : Int) + (l1.length : Int))) > 1048576
 case pos =>
  rw [if_pos c3] at H
  have c3b0 := decide_eq_true c3
  clear c3
  obtain rfl := Option.some.inj H
  go_enter Tryz.func8, Tryz.ntmps8
  go_wp2
  go_ret
  exact ⟨rr_, bq0_⟩
 rw [if_neg c3] at H
 have c3b0 := decide_eq_false c3
 clear c3
 obtain ⟨t1230, A4, H⟩ := ob_ H
 obtain ⟨⟨t1233, t1234⟩, A5, H⟩ := ob_ H
 obtain ⟨⟨t1237, t1238⟩, A6, H⟩ := ob_ H
 have HC7 := a0_ H
 clear H
 go_enter Tryz.func8, Tryz.ntmps8
 go_upto_region 6 with (first | ((with_reducible refine gt_ 45 rfl ?_); refine gs_ 33 Tryz.func45 #[.slice A0 l0.length c0] ?_; (with_reducible refine (spec_DrawSetsOf.calls k _ _ l0 t1230 _ ?side1 ?side2 A4.out).mono ?_); (case side1 => repeat (first | exact HR0.out | (with_reducible refine Kd.C_alloc ?_ _) | (with_reducible refine Kd.C_drewN ?_ _) | (with_reducible refine Kd.C_drew ?_))); (case side2 => exact HC0.out); rintro e w8 ⟨v1231, rfl, ho0, hb⟩; refine ⟨_, rfl, ?_⟩; have HO1232 := a0_ (Kd.R_lower ho0 (below_size bq0_)); replace HB := a0_ (below_step bq0_ hb); clear hb; (try clear ho0); obtain ⟨Ao9, co9, eo9⟩ := Kd.R_slice HO1232.out; subst eo9) | ((with_reducible refine gt_ 24 rfl ?_); refine gs_ 36 Tryz.func24 #[.slice Ao9 t1230.length co9] ?_; (with_reducible refine (impl_SetsOf.calls k _ _ t1230 t1233 t1234 _ ?side1 ?side2 A5.out).mono ?_); (case side1 => exact kD_ (Kd.R_reads' HO1232.out).2.2); (case side2 => exact (Kd.R_reads' HO1232.out).2.1); rintro e w10 ⟨v1235, rfl, ho0, hb⟩; refine ⟨_, rfl, ?_⟩; replace HO1232 := a0_ (Kd.R_below (kR_ HO1232.out) hb); have HO1236 := a0_ (Kd.S_lower ho0 (below_size bq0_)); replace HB := a0_ (below_step bq0_ hb); clear hb; (try clear ho0)) | ((with_reducible refine gt_ 22 rfl ?_); refine gs_ 41 Tryz.func22 #[.slice Ao9 t1230.length co9] ?_; (with_reducible refine (spec_SetsOf.calls k _ _ t1230 t1237 t1238 _ ?side1 ?side2 A6.out).mono ?_); (case side1 => exact kD_ (Kd.R_reads' HO1232.out).2.2); (case side2 => exact (Kd.R_reads' HO1232.out).2.1); rintro e w11 ⟨v1239, rfl, ho0, hb⟩; refine ⟨_, rfl, ?_⟩; replace HO1232 := a0_ (Kd.R_below (kR_ HO1232.out) hb); have HO1240 := a0_ (Kd.S_lower (Kd.S_new' ho0 (Kd.S_lt (kS_ HO1236.out))) (below_size bq0_)); replace HO1236 := a0_ (Kd.S_elder' (by (with_reducible repeat (first | apply Kd.S_alloc | apply Kd.S_drewN | apply Kd.S_drew)); exact HO1236.out) (Kd.S_base ho0) hb); replace HB := a0_ (below_step bq0_ hb); clear hb; (try clear ho0)))
 (try simp only [Act.put, List.setIfInBounds_toArray, List.set_cons_zero, List.set_cons_succ])
 go_cut [52] (fun v52 wc => ∃ (kq : Nat) (x52_6 : Bool), v52 = .bool x52_6 ∧ Aside0 (laws_FnSets.j0 kq l1 t1230 t1233 t1234 x52_6 = some r) ∧ Aside0 (kq ≤ k) ∧ Aside0 (Kd.R k45 45 wc w.heap.size (fun _ => True) (.slice Ao9 t1230.length co9) t1230) ∧ Aside0 (Kd.S k83 83 wc w.heap.size (fun _ => True) v1235 t1233) ∧ Aside0 (Below w.heap.size w wc))
 case first =>
  have H := HC7.out
  clear HC7
  by_cases c12 : (t1234 != t1238) = true
  case pos =>
   rw [if_pos c12] at H
   have c12b0 : (t1234 != t1238) = true := c12
   (try (have c12b1 : decide (t1234 = t1238) = false := by simpa using c12))
   (try (have c12b2 : (t1234 == t1238) = false := by simpa using c12))
   (try (have c12b3 : ¬ (t1234 = t1238) := by simpa using c12))
   clear c12
   (first | rw [c12b0] | (simp only [i64_w, i32_w]; rw [c12b0]) | skip)
   have H' := a0_ H
   clear H
   go_wp2
   go_meet
   case rel => exact ⟨_, (true), rs_, H', ⟨by first | omega | exact Nat.le_refl _⟩, ⟨kR_ HO1232.out⟩, ⟨kS_ (Kd.S_mono HO1236.out (fun _ hk => trivial))⟩, ⟨bq0_⟩⟩
  rw [if_neg c12] at H
  have c12b0 : (t1234 != t1238) = false := by simpa using c12
  (try (have c12b1 : decide (t1234 = t1238) = true := by simpa using c12))
  (try (have c12b2 : (t1234 == t1238) = true := by simpa using c12))
  clear c12
  (first | rw [c12b0] | (simp only [i64_w, i32_w]; rw [c12b0]) | skip)
  obtain ⟨t1241, A13, H⟩ := ob_ H
  have H' := a0_ H
  clear H
  obtain ⟨Ao14, co14, eo14⟩ := Kd.S_slice HO1236.out
  subst eo14
  obtain ⟨Ao15, co15, eo15⟩ := Kd.S_slice HO1240.out
  subst eo15
  go_wp2_with (first | (go_at_call 46; (with_reducible refine (laws_sameSets.calls k _ _ t1233 _ _ t1237 t1241 _ ?side1 ?side2 ?side3 ?side4 A13.out).mono ?_); (case side1 => repeat (first | exact (Kd.S_reads' HO1236.out).2.2 | (with_reducible refine Kd.C_alloc ?_ _) | (with_reducible refine Kd.C_drewN ?_ _) | (with_reducible refine Kd.C_drew ?_))); (case side2 => exact (Kd.S_reads' HO1236.out).2.1); (case side3 => repeat (first | exact (Kd.S_reads' HO1240.out).2.2 | (with_reducible refine Kd.C_alloc ?_ _) | (with_reducible refine Kd.C_drewN ?_ _) | (with_reducible refine Kd.C_drew ?_))); (case side4 => exact (Kd.S_reads' HO1240.out).2.1); rintro e w16 ⟨rfl, hb⟩; replace HO1232 := a0_ (Kd.R_below (kR_ HO1232.out) hb); replace HO1236 := a0_ (Kd.S_below (by (with_reducible repeat (first | apply Kd.S_alloc | apply Kd.S_drewN | apply Kd.S_drew)); exact HO1236.out) hb); replace HO1240 := a0_ (Kd.S_below (by (with_reducible repeat (first | apply Kd.S_alloc | apply Kd.S_drewN | apply Kd.S_drew)); exact HO1240.out) hb); replace HB := a0_ (below_step bq0_ hb); clear hb))
  go_meet
  case rel => exact ⟨_, (!t1241), rs_, H', ⟨by first | omega | exact Nat.le_refl _⟩, ⟨kR_ HO1232.out⟩, ⟨kS_ (Kd.S_mono HO1236.out (fun _ hk => trivial))⟩, ⟨bq0_⟩⟩
 case rest =>
  clear HC7
  try clear c1
  try clear c3
  try clear c3b0
  obtain ⟨kq, x52_6, rfl, HA, HJ6, HO_5, HO_6, HB⟩ := hcut
  cases kq with
  | zero => exact absurd HA.out (by simp [laws_FnSets.j0])
  | succ kj6 =>
   have H := HA.out
   clear HA
   simp only [laws_FnSets.j0] at H
   by_cases c17 : x52_6 = true
   case pos =>
    subst c17
    rw [if_pos rfl] at H
    obtain rfl := Option.some.inj H
    go_wp2
    go_ret
    exact ⟨rr_, bq0_⟩
   replace c17 := Bool.eq_false_iff.mpr c17
   subst c17
   rw [if_neg ff_] at H
   have HC18 := a0_ H
   clear H
   go_upto_if 53 with (fail)
   go_cut [] (fun wc => ∃ (kq : Nat), Aside0 (laws_FnSets.j4 kq l1 = some r) ∧ Aside0 (kq ≤ kj6) ∧ Aside0 (Below w.heap.size w wc))
   case first =>
    have H := HC18.out
    clear HC18
    by_cases c19 : t1234 = true
    case neg =>
     replace c19 := Bool.eq_false_iff.mpr c19
     subst c19
     rw [if_neg ff_] at H
     have H' := a0_ H
     clear H
     go_wp2
     go_meet
     case rel => exact ⟨_, H', jl_ HJ6, ⟨bq0_⟩⟩
    subst c19
    rw [if_pos rfl] at H
    obtain ⟨⟨t1242, t1243⟩, A20, H⟩ := ob_ H
    obtain ⟨⟨t1246, t1247⟩, A21, H⟩ := ob_ H
    have HC22 := a0_ H
    clear H
    obtain ⟨Ao23, co23, eo23⟩ := Kd.S_slice HO_6.out
    subst eo23
    go_upto_region 11 with (first | ((with_reducible refine gt_ 15 rfl ?_); refine gs_ 56 Tryz.func15 #[.slice Ao23 t1233.length co23] ?_; (with_reducible refine (impl_RecordsOf.calls kj6 _ _ t1233 t1242 t1243 _ ?side1 ?side2 A20.out).mono ?_); (case side1 => repeat (first | exact (Kd.S_reads' HO_6.out).2.2 | (with_reducible refine Kd.C_alloc ?_ _) | (with_reducible refine Kd.C_drewN ?_ _) | (with_reducible refine Kd.C_drew ?_))); (case side2 => exact (Kd.S_reads' HO_6.out).2.1); rintro e w24 ⟨v1244, rfl, ho0, hb⟩; refine ⟨_, rfl, ?_⟩; replace HO_6 := a0_ (Kd.S_below (by (with_reducible repeat (first | apply Kd.S_alloc | apply Kd.S_drewN | apply Kd.S_drew)); exact HO_6.out) hb); have HO1245 := a0_ (Kd.R_lower (Kd.R_new' ho0 (Kd.R_lt (kR_ HO_5.out))) (below_size bq0_)); replace HO_5 := a0_ (Kd.R_elder' (kR_ HO_5.out) (Kd.R_base ho0) hb); replace HB := a0_ (below_step bq0_ hb); clear hb; (try clear ho0); obtain ⟨Ao25, co25, eo25⟩ := Kd.R_slice HO1245.out; subst eo25) | ((with_reducible refine gt_ 24 rfl ?_); refine gs_ 61 Tryz.func24 #[.slice Ao25 t1242.length co25] ?_; (with_reducible refine (impl_SetsOf.calls kj6 _ _ t1242 t1246 t1247 _ ?side1 ?side2 A21.out).mono ?_); (case side1 => exact kD_ (Kd.R_reads' HO1245.out).2.2); (case side2 => exact (Kd.R_reads' HO1245.out).2.1); rintro e w26 ⟨v1248, rfl, ho0, hb⟩; refine ⟨_, rfl, ?_⟩; replace HO_5 := a0_ (Kd.R_below (kR_ HO_5.out) hb); replace HO1245 := a0_ (Kd.R_below (kR_ HO1245.out) hb); have HO1249 := a0_ (Kd.S_lower (Kd.S_new' ho0 (Kd.S_lt (kS_ HO_6.out))) (below_size bq0_)); replace HO_6 := a0_ (Kd.S_elder' (by (with_reducible repeat (first | apply Kd.S_alloc | apply Kd.S_drewN | apply Kd.S_drew)); exact HO_6.out) (Kd.S_base ho0) hb); replace HB := a0_ (below_step bq0_ hb); clear hb; (try clear ho0)))
    (try simp only [Act.put, List.setIfInBounds_toArray, List.set_cons_zero, List.set_cons_succ])
    go_cut [82] (fun v82 wc => ∃ (kq : Nat) (x82_21 : Bool), v82 = .bool x82_21 ∧ Aside0 (laws_FnSets.j1 kq l1 t1230 t1242 x82_21 = some r) ∧ Aside0 (kq ≤ kj6) ∧ Aside0 (Kd.R k45 45 wc w.heap.size (fun k_ => some k_ ≠ ((.slice Ao25 t1242.length co25) : Value).ownBlock) (.slice Ao9 t1230.length co9) t1230) ∧ Aside0 (Kd.R k45 45 wc w.heap.size (fun k_ => some k_ ≠ ((.slice Ao9 t1230.length co9) : Value).ownBlock) (.slice Ao25 t1242.length co25) t1242) ∧ Aside0 (Below w.heap.size w wc))
    case first =>
     have H := HC22.out
     clear HC22
     by_cases c27 : t1243 = true
     case neg =>
      replace c27 := Bool.eq_false_iff.mpr c27
      subst c27
      rw [if_neg ff_] at H
      have H' := a0_ H
      clear H
      go_wp2
      go_meet
      case rel => exact ⟨_, (true), rs_, H', jl_ HJ6, ⟨kR_ (Kd.R_mono HO_5.out (fun _ hk => hk.2))⟩, ⟨kR_ (Kd.R_mono HO1245.out (fun _ hk => hk.2))⟩, ⟨bq0_⟩⟩
     subst c27
     rw [if_pos rfl] at H
     by_cases c28 : t1247 = true
     case neg =>
      replace c28 := Bool.eq_false_iff.mpr c28
      subst c28
      rw [if_neg ff_] at H
      have H' := a0_ H
      clear H
      go_wp2
      go_meet
      case rel => exact ⟨_, (true), rs_, H', jl_ HJ6, ⟨kR_ (Kd.R_mono HO_5.out (fun _ hk => hk.2))⟩, ⟨kR_ (Kd.R_mono HO1245.out (fun _ hk => hk.2))⟩, ⟨bq0_⟩⟩
     subst c28
     rw [if_pos rfl] at H
     obtain ⟨t1250, A29, H⟩ := ob_ H
     by_cases c30 : t1250 = true
     case pos =>
      subst c30
      rw [if_pos rfl] at H
      have H' := a0_ H
      clear H
      obtain ⟨Ao31, co31, eo31⟩ := Kd.S_slice HO1249.out
      subst eo31
      go_wp2_with (first | (go_at_call 46; (with_reducible refine (laws_sameSets.calls kj6 _ _ t1246 _ _ t1233 true _ ?side1 ?side2 ?side3 ?side4 A29.out).mono ?_); (case side1 => repeat (first | exact (Kd.S_reads' HO1249.out).2.2 | (with_reducible refine Kd.C_alloc ?_ _) | (with_reducible refine Kd.C_drewN ?_ _) | (with_reducible refine Kd.C_drew ?_))); (case side2 => exact (Kd.S_reads' HO1249.out).2.1); (case side3 => repeat (first | exact (Kd.S_reads' HO_6.out).2.2 | (with_reducible refine Kd.C_alloc ?_ _) | (with_reducible refine Kd.C_drewN ?_ _) | (with_reducible refine Kd.C_drew ?_))); (case side4 => exact (Kd.S_reads' HO_6.out).2.1); rintro e w32 ⟨rfl, hb⟩; replace HO_5 := a0_ (Kd.R_below (kR_ HO_5.out) hb); replace HO_6 := a0_ (Kd.S_below (by (with_reducible repeat (first | apply Kd.S_alloc | apply Kd.S_drewN | apply Kd.S_drew)); exact HO_6.out) hb); replace HO1245 := a0_ (Kd.R_below (kR_ HO1245.out) hb); replace HO1249 := a0_ (Kd.S_below (by (with_reducible repeat (first | apply Kd.S_alloc | apply Kd.S_drewN | apply Kd.S_drew)); exact HO1249.out) hb); replace HB := a0_ (below_step bq0_ hb); clear hb))
      go_meet
      case rel => exact ⟨_, (decide ((t1242.length : Int) > (t1230.length : Int))), rs_, H', jl_ HJ6, ⟨kR_ (Kd.R_mono HO_5.out (fun _ hk => hk.2))⟩, ⟨kR_ (Kd.R_mono HO1245.out (fun _ hk => hk.2))⟩, ⟨bq0_⟩⟩
     replace c30 := Bool.eq_false_iff.mpr c30
     subst c30
     rw [if_neg ff_] at H
     have H' := a0_ H
     clear H
     obtain ⟨Ao33, co33, eo33⟩ := Kd.S_slice HO1249.out
     subst eo33
     go_wp2_with (first | (go_at_call 46; (with_reducible refine (laws_sameSets.calls kj6 _ _ t1246 _ _ t1233 false _ ?side1 ?side2 ?side3 ?side4 A29.out).mono ?_); (case side1 => repeat (first | exact (Kd.S_reads' HO1249.out).2.2 | (with_reducible refine Kd.C_alloc ?_ _) | (with_reducible refine Kd.C_drewN ?_ _) | (with_reducible refine Kd.C_drew ?_))); (case side2 => exact (Kd.S_reads' HO1249.out).2.1); (case side3 => repeat (first | exact (Kd.S_reads' HO_6.out).2.2 | (with_reducible refine Kd.C_alloc ?_ _) | (with_reducible refine Kd.C_drewN ?_ _) | (with_reducible refine Kd.C_drew ?_))); (case side4 => exact (Kd.S_reads' HO_6.out).2.1); rintro e w34 ⟨rfl, hb⟩; replace HO_5 := a0_ (Kd.R_below (kR_ HO_5.out) hb); replace HO_6 := a0_ (Kd.S_below (by (with_reducible repeat (first | apply Kd.S_alloc | apply Kd.S_drewN | apply Kd.S_drew)); exact HO_6.out) hb); replace HO1245 := a0_ (Kd.R_below (kR_ HO1245.out) hb); replace HO1249 := a0_ (Kd.S_below (by (with_reducible repeat (first | apply Kd.S_alloc | apply Kd.S_drewN | apply Kd.S_drew)); exact HO1249.out) hb); replace HB := a0_ (below_step bq0_ hb); clear hb))
     go_meet
     case rel => exact ⟨_, (true), rs_, H', jl_ HJ6, ⟨kR_ (Kd.R_mono HO_5.out (fun _ hk => hk.2))⟩, ⟨kR_ (Kd.R_mono HO1245.out (fun _ hk => hk.2))⟩, ⟨bq0_⟩⟩
    case rest =>
     clear HC22
     try clear c1
     try clear c2
     try clear p2
     try clear c3
     try clear c3b0
     try clear c4
     try clear p6
     try clear c8
     try clear c12
     try clear c12b0
     try clear c12b1
     try clear c12b2
     try clear c17
     try clear c19
     try clear p2
     try clear p6
     obtain ⟨kq, x82_21, rfl, HA, HJ21, HO_5, HO_10, HB⟩ := hcut
     cases kq with
     | zero => exact absurd HA.out (by simp [laws_FnSets.j1])
     | succ kj21 =>
      have H := HA.out
      clear HA
      simp only [laws_FnSets.j1] at H
      by_cases c35 : x82_21 = true
      case pos =>
       subst c35
       rw [if_pos rfl] at H
       obtain rfl := Option.some.inj H
       go_wp2
       go_ret
       exact ⟨rr_, bq0_⟩
      replace c35 := Bool.eq_false_iff.mpr c35
      subst c35
      rw [if_neg ff_] at H
      have H' := a0_ H
      clear H
      go_wp2
      go_loopg [85] kj21 (fun kq v85 w' => ∃ (x85_3 : Int), v85 = .int .i64 x85_3 ∧ Aside0 (laws_FnSets.l0 kq l1 t1230 t1242 t1242 (t1242.length : Int) x85_3 = some r) ∧ Aside0 (kq ≤ kj21) ∧ Aside0 (Kd.R k45 45 w' w.heap.size (fun k_ => some k_ ≠ ((.slice Ao25 t1242.length co25) : Value).ownBlock ∧ some k_ ≠ ((.slice Ao25 t1242.length co25) : Value).ownBlock) (.slice Ao9 t1230.length co9) t1230) ∧ Aside0 (Kd.R k45 45 w' w.heap.size (fun k_ => some k_ ≠ ((.slice Ao9 t1230.length co9) : Value).ownBlock) (.slice Ao25 t1242.length co25) t1242) ∧ Aside0 (Kd.R k45 45 w' w.heap.size (fun k_ => some k_ ≠ ((.slice Ao9 t1230.length co9) : Value).ownBlock) (.slice Ao25 t1242.length co25) t1242) ∧ Aside0 (Below w.heap.size w w'))
      case atStart => exact ⟨(0), rs_, H', ⟨Nat.le_refl _⟩, ⟨by (with_reducible repeat (first | apply Kd.R_alloc | apply Kd.R_drewN | apply Kd.R_drew)); exact Kd.R_mono HO_5.out (fun _ hk => ⟨hk, hk⟩)⟩, ⟨kR_ HO_10.out⟩, ⟨kR_ HO_10.out⟩, ⟨bq0_⟩⟩
      case round =>
       clear H'
       try clear c1
       try clear c2
       try clear p2
       try clear c3
       try clear c3b0
       try clear c4
       try clear p6
       try clear c8
       try clear c12
       try clear c12b0
       try clear c12b1
       try clear c12b2
       try clear c15
       try clear c17
       try clear c19
       try clear c22
       try clear c24
       try clear c27
       try clear c28
       try clear c30
       try clear c35
       try clear p2
       try clear p6
       obtain ⟨x85_3, rfl, HA, HK3, HO_5, HO_10, HO_83, HB⟩ := hrel
       cases gk with
       | zero => exact absurd HA.out (by simp [laws_FnSets.l0])
       | succ k3 =>
        have H := HA.out
        clear HA
        simp only [laws_FnSets.l0] at H
        by_cases c36 : x85_3 < (t1242.length : Int)
        case neg =>
         rw [if_neg c36] at H
         have c36b0 := decide_eq_false c36
         clear c36
         have H' := a0_ H
         clear H
         go_wp2
         go_meet
         case rel => exact ⟨_, H', ⟨by have := HJ6.out; have := HJ21.out; have := HK3.out; first | omega | exact Nat.le_refl _⟩, ⟨bq0_⟩⟩
        rw [if_pos c36] at H
        have c36b0 := decide_eq_true c36
        clear c36
        by_cases c37 : 0 ≤ x85_3
        case neg =>
         rw [if_neg c37] at H
         exact absurd H (by simp)
        rw [if_pos c37] at H
        have c37b0 := decide_eq_true c37
        clear c37
        by_cases c38 : x85_3 < (t1242.length : Int)
        case neg =>
         rw [if_neg c38] at H
         exact absurd H (by simp)
        rw [if_pos c38] at H
        have c38b0 := decide_eq_true c38
        clear c38
        have H' := a0_ H
        clear H
        have p1251 := t0_ (x85_3)
        have q1251 := tl_ (x85_3) (t1242.length)
        obtain ⟨ad1251, e1251, hx1251_0, hx1251_1, hx1251_2, hx1251_3⟩ := at_T45 (Kd.R_reads' HO_83.out).2.2 x85_3 (of_eq_true p1251) (of_eq_true q1251)
        cases e1251
        go_wp2_with (first | ((with_reducible refine gate_dst (N := 15) rfl ?_); (try (refine gate_guard (by rfl) ?_; dsimp only)); refine boxS_ 15 #[.string (⟨#[]⟩ : ByteArray), .int .i64 0, .int .i64 0, .string (⟨#[]⟩ : ByteArray)] 45 (fun gb1252 hg w39 hbox hb => ?_); replace HO_5 := a0_ (Kd.R_below (Kd.R_elderB (kR_ HO_5.out) gb1252 (Nat.le_of_eq hg.symm)) hb); replace HO_10 := a0_ (Kd.R_below (Kd.R_elderB (kR_ HO_10.out) gb1252 (Nat.le_of_eq hg.symm)) hb); replace HO_83 := a0_ (Kd.R_below (Kd.R_elderB (kR_ HO_83.out) gb1252 (Nat.le_of_eq hg.symm)) hb); have BK1252 := a0_ (hbox); have GW1252 := a0_ (gw_ hg : w.heap.size ≤ gb1252); replace HB := a0_ (below_step bq0_ hb); have GE1252 := GW1252; clear hb hbox hg; obtain ⟨z40_0, z40_1, z40_2, z40_3, q40_0, q40_1, q40_2, q40_3⟩ := bk4_ BK1252.out))
        go_loopg [16, 92] k3 (fun kq v16 v92 w' => ∃ (x16_4 : Bool) (x92_4 : Int), v16 = .bool x16_4 ∧ v92 = .int .i64 x92_4 ∧ Aside0 (laws_FnSets.l1 kq l1 t1230 t1242 x85_3 x16_4 t1242 (t1242.length : Int) x85_3 t1230 (t1230.length : Int) x92_4 ((rd_T45 t1242 x85_3).f0) ((rd_T45 t1242 x85_3).f1) ((rd_T45 t1242 x85_3).f2) ((rd_T45 t1242 x85_3).f3) = some r) ∧ Aside0 (kq ≤ k3) ∧ Aside0 (Kd.R k45 45 w' w.heap.size (fun k_ => some k_ ≠ ((.slice (some ad1251) t1242.length co25) : Value).ownBlock ∧ some k_ ≠ ((.slice (some ad1251) t1242.length co25) : Value).ownBlock ∧ k_ ≠ gb1252) (.slice Ao9 t1230.length co9) t1230) ∧ Aside0 (Kd.R k45 45 w' w.heap.size (fun k_ => some k_ ≠ ((.slice Ao9 t1230.length co9) : Value).ownBlock ∧ some k_ ≠ ((.slice Ao9 t1230.length co9) : Value).ownBlock ∧ k_ ≠ gb1252) (.slice (some ad1251) t1242.length co25) t1242) ∧ Aside0 (Kd.R k45 45 w' w.heap.size (fun k_ => some k_ ≠ ((.slice Ao9 t1230.length co9) : Value).ownBlock ∧ some k_ ≠ ((.slice Ao9 t1230.length co9) : Value).ownBlock ∧ k_ ≠ gb1252) (.slice (some ad1251) t1242.length co25) t1242) ∧ Aside0 (Kd.R k45 45 w' w.heap.size (fun k_ => some k_ ≠ ((.slice (some ad1251) t1242.length co25) : Value).ownBlock ∧ some k_ ≠ ((.slice (some ad1251) t1242.length co25) : Value).ownBlock ∧ k_ ≠ gb1252) (.slice Ao9 t1230.length co9) t1230) ∧ Aside0 (w'.heap[gb1252]? = some (.cells #[.string ((rd_T45 t1242 x85_3).f0), .int .i64 ((rd_T45 t1242 x85_3).f1), .int .i64 ((rd_T45 t1242 x85_3).f2), .string ((rd_T45 t1242 x85_3).f3)] 45 (0, 0))) ∧ Aside0 (Below w.heap.size w w'))
        case atStart => exact ⟨(false), (0), rs_, rs_, H', ⟨Nat.le_refl _⟩, ⟨by (with_reducible repeat (first | apply Kd.R_alloc | apply Kd.R_drewN | apply Kd.R_drew)); exact Kd.R_mono (rf4_ gb1252 (Kd.R_mono HO_5.out (fun k_ hk => (⟨hk, hk.2⟩ : _ ∧ k_ ≠ gb1252))) (fun _ hk => hk.2) (.string ((rd_T45 t1242 x85_3).f0)) (.int .i64 ((rd_T45 t1242 x85_3).f1)) (.int .i64 ((rd_T45 t1242 x85_3).f2)) (.string ((rd_T45 t1242 x85_3).f3))) (fun _ hk => ⟨hk.1.1.1, ⟨hk.1.1.2, hk.1.2⟩⟩)⟩, ⟨by (with_reducible repeat (first | apply Kd.R_alloc | apply Kd.R_drewN | apply Kd.R_drew)); exact Kd.R_mono (rf4_ gb1252 (Kd.R_mono HO_10.out (fun k_ hk => (⟨hk, hk.2⟩ : _ ∧ k_ ≠ gb1252))) (fun _ hk => hk.2) (.string ((rd_T45 t1242 x85_3).f0)) (.int .i64 ((rd_T45 t1242 x85_3).f1)) (.int .i64 ((rd_T45 t1242 x85_3).f2)) (.string ((rd_T45 t1242 x85_3).f3))) (fun _ hk => ⟨hk.1.1, ⟨hk.1.1, hk.1.2⟩⟩)⟩, ⟨by (with_reducible repeat (first | apply Kd.R_alloc | apply Kd.R_drewN | apply Kd.R_drew)); exact Kd.R_mono (rf4_ gb1252 (Kd.R_mono HO_83.out (fun k_ hk => (⟨hk, hk.2⟩ : _ ∧ k_ ≠ gb1252))) (fun _ hk => hk.2) (.string ((rd_T45 t1242 x85_3).f0)) (.int .i64 ((rd_T45 t1242 x85_3).f1)) (.int .i64 ((rd_T45 t1242 x85_3).f2)) (.string ((rd_T45 t1242 x85_3).f3))) (fun _ hk => ⟨hk.1.1, ⟨hk.1.1, hk.1.2⟩⟩)⟩, ⟨by (with_reducible repeat (first | apply Kd.R_alloc | apply Kd.R_drewN | apply Kd.R_drew)); exact Kd.R_mono (rf4_ gb1252 (Kd.R_mono HO_5.out (fun k_ hk => (⟨hk, hk.2⟩ : _ ∧ k_ ≠ gb1252))) (fun _ hk => hk.2) (.string ((rd_T45 t1242 x85_3).f0)) (.int .i64 ((rd_T45 t1242 x85_3).f1)) (.int .i64 ((rd_T45 t1242 x85_3).f2)) (.string ((rd_T45 t1242 x85_3).f3))) (fun _ hk => ⟨hk.1.1.1, ⟨hk.1.1.2, hk.1.2⟩⟩)⟩, ⟨put4_ BK1252.out⟩, ⟨bq1_⟩⟩
        case round =>
         clear H'
         try clear c1
         try clear c2
         try clear p2
         try clear c3
         try clear c3b0
         try clear c4
         try clear p6
         try clear c8
         try clear c12
         try clear c12b0
         try clear c12b1
         try clear c12b2
         try clear c15
         try clear c17
         try clear c19
         try clear c22
         try clear c24
         try clear c27
         try clear c28
         try clear c30
         try clear c35
         try clear c36
         try clear c36b0
         try clear c37
         try clear c37b0
         try clear c38
         try clear c38b0
         try clear z40_0 z40_1 z40_2 z40_3 q40_0 q40_1 q40_2 q40_3
         try clear hx1251_0
         try clear hx1251_1
         try clear hx1251_2
         try clear hx1251_3
         try clear p1251
         try clear p2
         try clear p6
         try clear q1251
         obtain ⟨x16_4, x92_4, rfl, rfl, HA, HK4, HO_5, HO_10, HO_83, HO_90, BK1252, HB⟩ := hrel
         cases gk with
         | zero => exact absurd HA.out (by simp [laws_FnSets.l1])
         | succ k4 =>
          have H := HA.out
          clear HA
          simp only [laws_FnSets.l1] at H
          by_cases c41 : x92_4 < (t1230.length : Int)
          case pos =>
           rw [if_pos c41] at H
           have c41b0 := decide_eq_true c41
           clear c41
           by_cases c42 : 0 ≤ x92_4
           case neg =>
            rw [if_neg c42] at H
            exact absurd H (by simp)
           rw [if_pos c42] at H
           have c42b0 := decide_eq_true c42
           clear c42
           by_cases c43 : x92_4 < (t1230.length : Int)
           case neg =>
            rw [if_neg c43] at H
            exact absurd H (by simp)
           rw [if_pos c43] at H
           have c43b0 := decide_eq_true c43
           clear c43
           by_cases c44 : x16_4 = true
           case pos =>
            subst c44
            rw [if_pos rfl] at H
            have H' := a0_ H
            clear H
            have p1253 := t0_ (x92_4)
            have q1253 := tl_ (x92_4) (t1230.length)
            obtain ⟨ad1253, e1253, hx1253_0, hx1253_1, hx1253_2, hx1253_3⟩ := at_T45 (Kd.R_reads' HO_90.out).2.2 x92_4 (of_eq_true p1253) (of_eq_true q1253)
            cases e1253
            go_wp2_with (first | ((with_reducible refine gate_dst (N := 18) rfl ?_); (try (refine gate_guard (by rfl) ?_; dsimp only)); refine boxS_ 18 #[.string (⟨#[]⟩ : ByteArray), .int .i64 0, .int .i64 0, .string (⟨#[]⟩ : ByteArray)] 45 (fun gb1254 hg w45 hbox hb => ?_); replace HO_5 := a0_ (Kd.R_below (Kd.R_elderB (kR_ HO_5.out) gb1254 (Nat.le_of_eq hg.symm)) hb); replace HO_10 := a0_ (Kd.R_below (Kd.R_elderB (kR_ HO_10.out) gb1254 (Nat.le_of_eq hg.symm)) hb); replace HO_83 := a0_ (Kd.R_below (Kd.R_elderB (kR_ HO_83.out) gb1254 (Nat.le_of_eq hg.symm)) hb); replace HO_90 := a0_ (Kd.R_below (Kd.R_elderB (kR_ HO_90.out) gb1254 (Nat.le_of_eq hg.symm)) hb); have BK1254 := a0_ (hbox); have GW1254 := a0_ (gw_ hg (below_size bq1_) : w.heap.size ≤ gb1254); replace HB := a0_ (below_step bq1_ hb); have NB1252_1254 := a0_ ((by rw [hg]; exact Nat.ne_of_lt (blk_lt (g := gb1252) (o := .cells #[.string ((rd_T45 t1242 x85_3).f0), .int .i64 ((rd_T45 t1242 x85_3).f1), .int .i64 ((rd_T45 t1242 x85_3).f2), .string ((rd_T45 t1242 x85_3).f3)] 45 (0, 0)) (kB_ BK1252.out)) : gb1252 ≠ gb1254)); have NB1254_1252 := a0_ ((by rw [hg]; exact Nat.ne_of_gt (blk_lt (g := gb1252) (o := .cells #[.string ((rd_T45 t1242 x85_3).f0), .int .i64 ((rd_T45 t1242 x85_3).f1), .int .i64 ((rd_T45 t1242 x85_3).f2), .string ((rd_T45 t1242 x85_3).f3)] 45 (0, 0)) (kB_ BK1252.out)) : gb1254 ≠ gb1252)); replace BK1252 := a0_ (bkB_ BK1252 hb); have GE1254 := GW1254; clear hb hbox hg; have hnb46 := NB1254_1252.out; have hnc46 := NB1252_1254.out; obtain ⟨_, _, _, _, _, _, _, _⟩ := bk4_ BK1254.out))
            go_roundg k4
            case measure => have := HJ6.out; have := HJ21.out; have := HK3.out; have := HK4.out; omega
            case rel => exact ⟨(true), (wrap64 (x92_4 + 1)), rs_, rs_, H', ⟨by have := HJ6.out; have := HJ21.out; have := HK3.out; have := HK4.out; omega⟩, ⟨by (with_reducible repeat (first | apply Kd.R_alloc | apply Kd.R_drewN | apply Kd.R_drew)); exact Kd.R_mono (rf4_ gb1254 (Kd.R_mono HO_5.out (fun k_ hk => (⟨hk, hk.2⟩ : _ ∧ k_ ≠ gb1254))) (fun _ hk => hk.2) (.string ((rd_T45 t1230 x92_4).f0)) (.int .i64 ((rd_T45 t1230 x92_4).f1)) (.int .i64 ((rd_T45 t1230 x92_4).f2)) (.string ((rd_T45 t1230 x92_4).f3))) (fun _ hk => ⟨hk.1.1.1, ⟨hk.1.1.2.1, hk.1.1.2.2⟩⟩)⟩, ⟨by (with_reducible repeat (first | apply Kd.R_alloc | apply Kd.R_drewN | apply Kd.R_drew)); exact Kd.R_mono (rf4_ gb1254 (Kd.R_mono HO_10.out (fun k_ hk => (⟨hk, hk.2⟩ : _ ∧ k_ ≠ gb1254))) (fun _ hk => hk.2) (.string ((rd_T45 t1230 x92_4).f0)) (.int .i64 ((rd_T45 t1230 x92_4).f1)) (.int .i64 ((rd_T45 t1230 x92_4).f2)) (.string ((rd_T45 t1230 x92_4).f3))) (fun _ hk => ⟨hk.1.1.1, ⟨hk.1.1.2.1, hk.1.1.2.2⟩⟩)⟩, ⟨by (with_reducible repeat (first | apply Kd.R_alloc | apply Kd.R_drewN | apply Kd.R_drew)); exact Kd.R_mono (rf4_ gb1254 (Kd.R_mono HO_83.out (fun k_ hk => (⟨hk, hk.2⟩ : _ ∧ k_ ≠ gb1254))) (fun _ hk => hk.2) (.string ((rd_T45 t1230 x92_4).f0)) (.int .i64 ((rd_T45 t1230 x92_4).f1)) (.int .i64 ((rd_T45 t1230 x92_4).f2)) (.string ((rd_T45 t1230 x92_4).f3))) (fun _ hk => ⟨hk.1.1.1, ⟨hk.1.1.2.1, hk.1.1.2.2⟩⟩)⟩, ⟨by (with_reducible repeat (first | apply Kd.R_alloc | apply Kd.R_drewN | apply Kd.R_drew)); exact Kd.R_mono (rf4_ gb1254 (Kd.R_mono HO_90.out (fun k_ hk => (⟨hk, hk.2⟩ : _ ∧ k_ ≠ gb1254))) (fun _ hk => hk.2) (.string ((rd_T45 t1230 x92_4).f0)) (.int .i64 ((rd_T45 t1230 x92_4).f1)) (.int .i64 ((rd_T45 t1230 x92_4).f2)) (.string ((rd_T45 t1230 x92_4).f3))) (fun _ hk => ⟨hk.1.1.1, ⟨hk.1.1.2.1, hk.1.1.2.2⟩⟩)⟩, ⟨bfar4_ NB1252_1254.out BK1252.out⟩, ⟨bq1_⟩⟩
           replace c44 := Bool.eq_false_iff.mpr c44
           subst c44
           rw [if_neg ff_] at H
           have H' := a0_ H
           clear H
           have p1253 := t0_ (x92_4)
           have q1253 := tl_ (x92_4) (t1230.length)
           obtain ⟨ad1253, e1253, hx1253_0, hx1253_1, hx1253_2, hx1253_3⟩ := at_T45 (Kd.R_reads' HO_90.out).2.2 x92_4 (of_eq_true p1253) (of_eq_true q1253)
           cases e1253
           go_wp2_with (first | ((with_reducible refine gate_dst (N := 18) rfl ?_); (try (refine gate_guard (by rfl) ?_; dsimp only)); refine boxS_ 18 #[.string (⟨#[]⟩ : ByteArray), .int .i64 0, .int .i64 0, .string (⟨#[]⟩ : ByteArray)] 45 (fun gb1254 hg w48 hbox hb => ?_); replace HO_5 := a0_ (Kd.R_below (Kd.R_elderB (kR_ HO_5.out) gb1254 (Nat.le_of_eq hg.symm)) hb); replace HO_10 := a0_ (Kd.R_below (Kd.R_elderB (kR_ HO_10.out) gb1254 (Nat.le_of_eq hg.symm)) hb); replace HO_83 := a0_ (Kd.R_below (Kd.R_elderB (kR_ HO_83.out) gb1254 (Nat.le_of_eq hg.symm)) hb); replace HO_90 := a0_ (Kd.R_below (Kd.R_elderB (kR_ HO_90.out) gb1254 (Nat.le_of_eq hg.symm)) hb); have BK1254 := a0_ (hbox); have GW1254 := a0_ (gw_ hg (below_size bq1_) : w.heap.size ≤ gb1254); replace HB := a0_ (below_step bq1_ hb); have NB1252_1254 := a0_ ((by rw [hg]; exact Nat.ne_of_lt (blk_lt (g := gb1252) (o := .cells #[.string ((rd_T45 t1242 x85_3).f0), .int .i64 ((rd_T45 t1242 x85_3).f1), .int .i64 ((rd_T45 t1242 x85_3).f2), .string ((rd_T45 t1242 x85_3).f3)] 45 (0, 0)) (kB_ BK1252.out)) : gb1252 ≠ gb1254)); have NB1254_1252 := a0_ ((by rw [hg]; exact Nat.ne_of_gt (blk_lt (g := gb1252) (o := .cells #[.string ((rd_T45 t1242 x85_3).f0), .int .i64 ((rd_T45 t1242 x85_3).f1), .int .i64 ((rd_T45 t1242 x85_3).f2), .string ((rd_T45 t1242 x85_3).f3)] 45 (0, 0)) (kB_ BK1252.out)) : gb1254 ≠ gb1252)); replace BK1252 := a0_ (bkB_ BK1252 hb); have GE1254 := GW1254; clear hb hbox hg; have hnb49 := NB1254_1252.out; have hnc49 := NB1252_1254.out; obtain ⟨_, _, _, _, _, _, _, _⟩ := bk4_ BK1254.out; obtain ⟨_, _, _, _, _, _, _, _⟩ := bk4_ BK1252.out))
           go_roundg k4
           case measure => have := HJ6.out; have := HJ21.out; have := HK3.out; have := HK4.out; omega
           case rel => exact ⟨(((((rd_T45 t1230 x92_4).f0).toList) == ((rd_T45 t1242 x85_3).f0).toList && (((rd_T45 t1230 x92_4).f1) == ((rd_T45 t1242 x85_3).f1) && (((rd_T45 t1230 x92_4).f2) == ((rd_T45 t1242 x85_3).f2) && ((((rd_T45 t1230 x92_4).f3).toList) == ((rd_T45 t1242 x85_3).f3).toList))))), (wrap64 (x92_4 + 1)), rs_, rs_, H', ⟨by have := HJ6.out; have := HJ21.out; have := HK3.out; have := HK4.out; omega⟩, ⟨by (with_reducible repeat (first | apply Kd.R_alloc | apply Kd.R_drewN | apply Kd.R_drew)); exact Kd.R_mono (rf4_ gb1254 (Kd.R_mono HO_5.out (fun k_ hk => (⟨hk, hk.2⟩ : _ ∧ k_ ≠ gb1254))) (fun _ hk => hk.2) (.string ((rd_T45 t1230 x92_4).f0)) (.int .i64 ((rd_T45 t1230 x92_4).f1)) (.int .i64 ((rd_T45 t1230 x92_4).f2)) (.string ((rd_T45 t1230 x92_4).f3))) (fun _ hk => ⟨hk.1.1.1, ⟨hk.1.1.2.1, hk.1.1.2.2⟩⟩)⟩, ⟨by (with_reducible repeat (first | apply Kd.R_alloc | apply Kd.R_drewN | apply Kd.R_drew)); exact Kd.R_mono (rf4_ gb1254 (Kd.R_mono HO_10.out (fun k_ hk => (⟨hk, hk.2⟩ : _ ∧ k_ ≠ gb1254))) (fun _ hk => hk.2) (.string ((rd_T45 t1230 x92_4).f0)) (.int .i64 ((rd_T45 t1230 x92_4).f1)) (.int .i64 ((rd_T45 t1230 x92_4).f2)) (.string ((rd_T45 t1230 x92_4).f3))) (fun _ hk => ⟨hk.1.1.1, ⟨hk.1.1.2.1, hk.1.1.2.2⟩⟩)⟩, ⟨by (with_reducible repeat (first | apply Kd.R_alloc | apply Kd.R_drewN | apply Kd.R_drew)); exact Kd.R_mono (rf4_ gb1254 (Kd.R_mono HO_83.out (fun k_ hk => (⟨hk, hk.2⟩ : _ ∧ k_ ≠ gb1254))) (fun _ hk => hk.2) (.string ((rd_T45 t1230 x92_4).f0)) (.int .i64 ((rd_T45 t1230 x92_4).f1)) (.int .i64 ((rd_T45 t1230 x92_4).f2)) (.string ((rd_T45 t1230 x92_4).f3))) (fun _ hk => ⟨hk.1.1.1, ⟨hk.1.1.2.1, hk.1.1.2.2⟩⟩)⟩, ⟨by (with_reducible repeat (first | apply Kd.R_alloc | apply Kd.R_drewN | apply Kd.R_drew)); exact Kd.R_mono (rf4_ gb1254 (Kd.R_mono HO_90.out (fun k_ hk => (⟨hk, hk.2⟩ : _ ∧ k_ ≠ gb1254))) (fun _ hk => hk.2) (.string ((rd_T45 t1230 x92_4).f0)) (.int .i64 ((rd_T45 t1230 x92_4).f1)) (.int .i64 ((rd_T45 t1230 x92_4).f2)) (.string ((rd_T45 t1230 x92_4).f3))) (fun _ hk => ⟨hk.1.1.1, ⟨hk.1.1.2.1, hk.1.1.2.2⟩⟩)⟩, ⟨bfar4_ NB1252_1254.out BK1252.out⟩, ⟨bq1_⟩⟩
          rw [if_neg c41] at H
          have c41b0 := decide_eq_false c41
          clear c41
          by_cases c52 : x16_4 = true
          case neg =>
           replace c52 := Bool.eq_false_iff.mpr c52
           subst c52
           rw [if_neg ff_] at H
           obtain rfl := Option.some.inj H
           go_wp2
           go_ret
           exact ⟨rr_, bq1_⟩
          subst c52
          rw [if_pos rfl] at H
          by_cases c53 : x85_3 > 0
          case neg =>
           rw [if_neg c53] at H
           have c53b0 := decide_eq_false c53
           clear c53
           have H' := a0_ H
           clear H
           go_wp2
           go_roundg k4
           case measure => have := HJ6.out; have := HJ21.out; have := HK3.out; have := HK4.out; omega
           case rel => exact ⟨(wrap64 (x85_3 + 1)), rs_, H', ⟨by have := HJ6.out; have := HJ21.out; have := HK3.out; have := HK4.out; omega⟩, ⟨by (with_reducible repeat (first | apply Kd.R_alloc | apply Kd.R_drewN | apply Kd.R_drew)); exact Kd.R_mono HO_5.out (fun _ hk => ⟨hk.1, hk.2.1⟩)⟩, ⟨kR_ (Kd.R_mono HO_10.out (fun _ hk => hk.1))⟩, ⟨kR_ (Kd.R_mono HO_83.out (fun _ hk => hk.1))⟩, ⟨bq1_⟩⟩
          rw [if_pos c53] at H
          have c53b0 := decide_eq_true c53
          clear c53
          obtain ⟨ji54, hji54⟩ : ∃ j_ : Int, (wrap64 (x85_3 - 1)) = j_ := ⟨_, rfl⟩
          (first | rw [hji54] at H | simp only [hji54] at H)
          have hji54w : (IntKind.i64.wrap (x85_3 - 1)) = ji54 := (i64_w _).trans hji54
          by_cases c55 : 0 ≤ (ji54)
          case neg =>
           rw [if_neg c55] at H
           exact absurd H (by simp)
          rw [if_pos c55] at H
          have c55b0 := decide_eq_true c55
          clear c55
          by_cases c56 : (ji54) < (t1242.length : Int)
          case neg =>
           rw [if_neg c56] at H
           exact absurd H (by simp)
          rw [if_pos c56] at H
          have c56b0 := decide_eq_true c56
          clear c56
          obtain ⟨⟨t1256, t1257⟩, A57, H⟩ := ob_ H
          by_cases c58 : t1257 = true
          case neg =>
           replace c58 := Bool.eq_false_iff.mpr c58
           subst c58
           rw [if_neg ff_] at H
           obtain rfl := Option.some.inj H
           try go_wp2
           replace HO_5 := a0_ (Kd.R_drew HO_5.out)
           replace HO_10 := a0_ (Kd.R_drew HO_10.out)
           replace HO_83 := a0_ (Kd.R_drew HO_83.out)
           replace HO_90 := a0_ (Kd.R_drew HO_90.out)
           replace BK1252 := a0_ (blk_drew BK1252.out)
           replace HB := a0_ (below_drew1 HB.out)
           have p1255 := t0_ ((ji54))
           have q1255 := tl_ ((ji54)) (t1242.length)
           obtain ⟨ad1255, e1255, hx1255_0, hx1255_1, hx1255_2, hx1255_3⟩ := at_T45 (Kd.R_reads' HO_10.out).2.2 (ji54) (of_eq_true p1255) (of_eq_true q1255)
           obtain rfl : ad1251 = ad1255 := (by injection e1255)
           refine stH_ 12 [] (cb_ BK1252.out (e4_ hx1255_0 hx1255_1 hx1255_2 hx1255_3)) (fun hHeld => ?_); refine with_tabW laws_FnSets.tab25 laws_FnSets.bits25 (fun HT_ HW_ => ?_)
           generalize wr.drew = w64 at HO_5 HO_10 HO_83 HO_90 BK1252 HB hx1255_0 hx1255_1 hx1255_2 hx1255_3 hHeld ⊢
           refine p_ 0 108 ?_
           refine p_ 1 109 ?_
           refine p_ 2 110 ?_
           refine p_ 3 111 ?_
           refine t_ 4 112 ?_
           refine t_ 5 113 ?_
           refine oneS_ 6 (some 114) (fun K hK => ?_)
           refine goes_ Tryz.func36 (by kernel_rfl) rfl #[.agg #[.string ((rd_T45 t1242 (ji54)).f0), .int .i64 ((rd_T45 t1242 (ji54)).f1), .int .i64 ((rd_T45 t1242 (ji54)).f2), .string ((rd_T45 t1242 (ji54)).f3)], .agg #[.string ((rd_T45 t1242 x85_3).f0), .int .i64 ((rd_T45 t1242 x85_3).f1), .int .i64 ((rd_T45 t1242 x85_3).f2), .string ((rd_T45 t1242 x85_3).f3)]] (by rfl) rfl rfl (by (try simp only [List.map_toArray, List.map_cons, List.map_nil]); first | done | (simp only [hji54]; rfl) | rfl | (simp only [List.length_drop, List.length_take]; rfl)) ?_
           with_reducible refine (impl_CompareRecords.calls k4 ((rd_T45 t1242 (ji54)).f0) ((rd_T45 t1242 (ji54)).f1) ((rd_T45 t1242 (ji54)).f2) ((rd_T45 t1242 (ji54)).f3) ((rd_T45 t1242 x85_3).f0) ((rd_T45 t1242 x85_3).f1) ((rd_T45 t1242 x85_3).f2) ((rd_T45 t1242 x85_3).f3) t1256 false _ A57.out).mono ?_
           rintro e w65 ⟨rfl, hb⟩
           have HS4_ := (hb.cell (World.block_lt_of_cell? _ _ (hHeld.2.2.2.2.1))).trans (hHeld.2.2.2.2.1)
           have HS5_ := (hb.cell (World.block_lt_of_cell? _ _ (hHeld.2.2.2.2.2.1))).trans (hHeld.2.2.2.2.2.1)
           have HS6_ := (hb.cell (World.block_lt_of_cell? _ _ (hHeld.2.2.2.2.2.2.1))).trans (hHeld.2.2.2.2.2.2.1)
           have HS7_ := (hb.cell (World.block_lt_of_cell? _ _ (hHeld.2.2.2.2.2.2.2))).trans (hHeld.2.2.2.2.2.2.2)
           refine ⟨_, rfl, ?_⟩
           replace HO_5 := a0_ (Kd.R_below (kR_ HO_5.out) hb)
           replace HO_10 := a0_ (Kd.R_below (kR_ HO_10.out) hb)
           replace HO_83 := a0_ (Kd.R_below (kR_ HO_83.out) hb)
           replace HO_90 := a0_ (Kd.R_below (kR_ HO_90.out) hb)
           replace BK1252 := a0_ (bkB_ BK1252 hb)
           replace HB := a0_ (below_step bq1_ hb)
           (try clear hb)
           (try clear hb2)
           (try clear hk)
           (try clear hi)
           refine hK.out _ _ (cb_ BK1252.out (c1_ HS4_ (c1_ HS5_ (c1_ HS6_ (e1_ HS7_))))).out (fun hHeld => ?_)
           clear hK K
           refine normS_ ?_
           refine p_ 7 107 ?_
           refine p_ 8 115 ?_
           refine p_ 9 116 ?_
           refine p_ 10 19 ?_
           refine p_ 11 20 ?_
           refine done_ (done_of HT_.out (by kernel_rfl)) ?_
           try go_wp2
           go_ret
           exact ⟨by first | rfl | (simp [errW_none, errW_some] <;> rfl) | (simp only [← hji54]; first | rfl | (simp [errW_none, errW_some] <;> rfl)) | (simp [*, errW_none, errW_some] <;> rfl), bq1_⟩
          subst c58
          rw [if_pos rfl] at H
          by_cases c59 : t1256 = (-1)
          case neg =>
           rw [if_neg c59] at H
           have c59b0 := beq_eq_false_iff_ne.mpr c59
           have c59b1 := bne_iff_ne.mpr c59
           obtain rfl := Option.some.inj H
           try go_wp2
           replace HO_5 := a0_ (Kd.R_drew HO_5.out)
           replace HO_10 := a0_ (Kd.R_drew HO_10.out)
           replace HO_83 := a0_ (Kd.R_drew HO_83.out)
           replace HO_90 := a0_ (Kd.R_drew HO_90.out)
           replace BK1252 := a0_ (blk_drew BK1252.out)
           replace HB := a0_ (below_drew1 HB.out)
           have p1255 := t0_ ((ji54))
           have q1255 := tl_ ((ji54)) (t1242.length)
           obtain ⟨ad1255, e1255, hx1255_0, hx1255_1, hx1255_2, hx1255_3⟩ := at_T45 (Kd.R_reads' HO_10.out).2.2 (ji54) (of_eq_true p1255) (of_eq_true q1255)
           obtain rfl : ad1251 = ad1255 := (by injection e1255)
           refine stH_ 12 [] (cb_ BK1252.out (e4_ hx1255_0 hx1255_1 hx1255_2 hx1255_3)) (fun hHeld => ?_); refine with_tabW laws_FnSets.tab25 laws_FnSets.bits25 (fun HT_ HW_ => ?_)
           generalize wr.drew = w62 at HO_5 HO_10 HO_83 HO_90 BK1252 HB hx1255_0 hx1255_1 hx1255_2 hx1255_3 hHeld ⊢
           refine p_ 0 108 ?_
           refine p_ 1 109 ?_
           refine p_ 2 110 ?_
           refine p_ 3 111 ?_
           refine t_ 4 112 ?_
           refine t_ 5 113 ?_
           refine oneS_ 6 (some 114) (fun K hK => ?_)
           refine goes_ Tryz.func36 (by kernel_rfl) rfl #[.agg #[.string ((rd_T45 t1242 (ji54)).f0), .int .i64 ((rd_T45 t1242 (ji54)).f1), .int .i64 ((rd_T45 t1242 (ji54)).f2), .string ((rd_T45 t1242 (ji54)).f3)], .agg #[.string ((rd_T45 t1242 x85_3).f0), .int .i64 ((rd_T45 t1242 x85_3).f1), .int .i64 ((rd_T45 t1242 x85_3).f2), .string ((rd_T45 t1242 x85_3).f3)]] (by rfl) rfl rfl (by (try simp only [List.map_toArray, List.map_cons, List.map_nil]); first | done | (simp only [hji54]; rfl) | rfl | (simp only [List.length_drop, List.length_take]; rfl)) ?_
           with_reducible refine (impl_CompareRecords.calls k4 ((rd_T45 t1242 (ji54)).f0) ((rd_T45 t1242 (ji54)).f1) ((rd_T45 t1242 (ji54)).f2) ((rd_T45 t1242 (ji54)).f3) ((rd_T45 t1242 x85_3).f0) ((rd_T45 t1242 x85_3).f1) ((rd_T45 t1242 x85_3).f2) ((rd_T45 t1242 x85_3).f3) t1256 true _ A57.out).mono ?_
           rintro e w63 ⟨rfl, hb⟩
           have HS4_ := (hb.cell (World.block_lt_of_cell? _ _ (hHeld.2.2.2.2.1))).trans (hHeld.2.2.2.2.1)
           have HS5_ := (hb.cell (World.block_lt_of_cell? _ _ (hHeld.2.2.2.2.2.1))).trans (hHeld.2.2.2.2.2.1)
           have HS6_ := (hb.cell (World.block_lt_of_cell? _ _ (hHeld.2.2.2.2.2.2.1))).trans (hHeld.2.2.2.2.2.2.1)
           have HS7_ := (hb.cell (World.block_lt_of_cell? _ _ (hHeld.2.2.2.2.2.2.2))).trans (hHeld.2.2.2.2.2.2.2)
           refine ⟨_, rfl, ?_⟩
           replace HO_5 := a0_ (Kd.R_below (kR_ HO_5.out) hb)
           replace HO_10 := a0_ (Kd.R_below (kR_ HO_10.out) hb)
           replace HO_83 := a0_ (Kd.R_below (kR_ HO_83.out) hb)
           replace HO_90 := a0_ (Kd.R_below (kR_ HO_90.out) hb)
           replace BK1252 := a0_ (bkB_ BK1252 hb)
           replace HB := a0_ (below_step bq1_ hb)
           (try clear hb)
           (try clear hb2)
           (try clear hk)
           (try clear hi)
           refine hK.out _ _ (cb_ BK1252.out (c1_ HS4_ (c1_ HS5_ (c1_ HS6_ (e1_ HS7_))))).out (fun hHeld => ?_)
           clear hK K
           refine normS_ ?_
           refine p_ 7 107 ?_
           refine p_ 8 115 ?_
           refine p_ 9 116 ?_
           refine p_ 10 19 ?_
           refine p_ 11 20 ?_
           refine done_ (done_of HT_.out (by kernel_rfl)) ?_
           try go_wp2
           go_ret
           exact ⟨by first | rfl | (simp [errW_none, errW_some] <;> rfl) | (simp only [← hji54]; first | rfl | (simp [errW_none, errW_some] <;> rfl)) | (simp [*, errW_none, errW_some] <;> rfl), bq1_⟩
          rw [if_pos c59] at H
          have c59b0 := beq_iff_eq.mpr c59
          have c59b1 := bne_eq_false_iff_eq.mpr c59
          clear c59
          have H' := a0_ H
          clear H
          try go_wp2
          replace HO_5 := a0_ (Kd.R_drew HO_5.out)
          replace HO_10 := a0_ (Kd.R_drew HO_10.out)
          replace HO_83 := a0_ (Kd.R_drew HO_83.out)
          replace HO_90 := a0_ (Kd.R_drew HO_90.out)
          replace BK1252 := a0_ (blk_drew BK1252.out)
          replace HB := a0_ (below_drew1 HB.out)
          have p1255 := t0_ ((ji54))
          have q1255 := tl_ ((ji54)) (t1242.length)
          obtain ⟨ad1255, e1255, hx1255_0, hx1255_1, hx1255_2, hx1255_3⟩ := at_T45 (Kd.R_reads' HO_10.out).2.2 (ji54) (of_eq_true p1255) (of_eq_true q1255)
          obtain rfl : ad1251 = ad1255 := (by injection e1255)
          refine stH_ 12 [] (cb_ BK1252.out (e4_ hx1255_0 hx1255_1 hx1255_2 hx1255_3)) (fun hHeld => ?_); refine with_tabW laws_FnSets.tab25 laws_FnSets.bits25 (fun HT_ HW_ => ?_)
          generalize wr.drew = w60 at HO_5 HO_10 HO_83 HO_90 BK1252 HB hx1255_0 hx1255_1 hx1255_2 hx1255_3 hHeld ⊢
          refine p_ 0 108 ?_
          refine p_ 1 109 ?_
          refine p_ 2 110 ?_
          refine p_ 3 111 ?_
          refine t_ 4 112 ?_
          refine t_ 5 113 ?_
          refine oneS_ 6 (some 114) (fun K hK => ?_)
          refine goes_ Tryz.func36 (by kernel_rfl) rfl #[.agg #[.string ((rd_T45 t1242 (ji54)).f0), .int .i64 ((rd_T45 t1242 (ji54)).f1), .int .i64 ((rd_T45 t1242 (ji54)).f2), .string ((rd_T45 t1242 (ji54)).f3)], .agg #[.string ((rd_T45 t1242 x85_3).f0), .int .i64 ((rd_T45 t1242 x85_3).f1), .int .i64 ((rd_T45 t1242 x85_3).f2), .string ((rd_T45 t1242 x85_3).f3)]] (by rfl) rfl rfl (by (try simp only [List.map_toArray, List.map_cons, List.map_nil]); first | done | (simp only [hji54]; rfl) | rfl | (simp only [List.length_drop, List.length_take]; rfl)) ?_
          with_reducible refine (impl_CompareRecords.calls k4 ((rd_T45 t1242 (ji54)).f0) ((rd_T45 t1242 (ji54)).f1) ((rd_T45 t1242 (ji54)).f2) ((rd_T45 t1242 (ji54)).f3) ((rd_T45 t1242 x85_3).f0) ((rd_T45 t1242 x85_3).f1) ((rd_T45 t1242 x85_3).f2) ((rd_T45 t1242 x85_3).f3) t1256 true _ A57.out).mono ?_
          rintro e w61 ⟨rfl, hb⟩
          have HS4_ := (hb.cell (World.block_lt_of_cell? _ _ (hHeld.2.2.2.2.1))).trans (hHeld.2.2.2.2.1)
          have HS5_ := (hb.cell (World.block_lt_of_cell? _ _ (hHeld.2.2.2.2.2.1))).trans (hHeld.2.2.2.2.2.1)
          have HS6_ := (hb.cell (World.block_lt_of_cell? _ _ (hHeld.2.2.2.2.2.2.1))).trans (hHeld.2.2.2.2.2.2.1)
          have HS7_ := (hb.cell (World.block_lt_of_cell? _ _ (hHeld.2.2.2.2.2.2.2))).trans (hHeld.2.2.2.2.2.2.2)
          refine ⟨_, rfl, ?_⟩
          replace HO_5 := a0_ (Kd.R_below (kR_ HO_5.out) hb)
          replace HO_10 := a0_ (Kd.R_below (kR_ HO_10.out) hb)
          replace HO_83 := a0_ (Kd.R_below (kR_ HO_83.out) hb)
          replace HO_90 := a0_ (Kd.R_below (kR_ HO_90.out) hb)
          replace BK1252 := a0_ (bkB_ BK1252 hb)
          replace HB := a0_ (below_step bq1_ hb)
          (try clear hb)
          (try clear hb2)
          (try clear hk)
          (try clear hi)
          refine hK.out _ _ (cb_ BK1252.out (c1_ HS4_ (c1_ HS5_ (c1_ HS6_ (e1_ HS7_))))).out (fun hHeld => ?_)
          clear hK K
          refine normS_ ?_
          refine p_ 7 107 ?_
          refine p_ 8 115 ?_
          refine p_ 9 116 ?_
          refine p_ 10 19 ?_
          refine p_ 11 20 ?_
          refine done_ (done_of HT_.out (by kernel_rfl)) ?_
          try go_wp2
          go_roundg k4
          case measure => have := HJ6.out; have := HJ21.out; have := HK3.out; have := HK4.out; omega
          case rel => exact ⟨(wrap64 (x85_3 + 1)), rs_, H', ⟨by have := HJ6.out; have := HJ21.out; have := HK3.out; have := HK4.out; omega⟩, ⟨by (with_reducible repeat (first | apply Kd.R_alloc | apply Kd.R_drewN | apply Kd.R_drew)); exact Kd.R_mono HO_5.out (fun _ hk => ⟨hk.1, hk.2.1⟩)⟩, ⟨kR_ (Kd.R_mono HO_10.out (fun _ hk => hk.1))⟩, ⟨kR_ (Kd.R_mono HO_83.out (fun _ hk => hk.1))⟩, ⟨bq1_⟩⟩
   case rest =>
    clear HC18
    try clear c1
    try clear p2
    try clear c3
    try clear c4
    try clear p6
    try clear c19
    obtain ⟨kq, HA, HJ17, HB⟩ := hcut
    cases kq with
    | zero => exact absurd HA.out (by simp [laws_FnSets.j4])
    | succ kj17 =>
     have H := HA.out
     clear HA
     simp only [laws_FnSets.j4] at H
     obtain ⟨t1258, A66, H⟩ := ob_ H
     obtain ⟨⟨t1261, t1262⟩, A67, H⟩ := ob_ H
     obtain ⟨⟨t1265, t1266⟩, A68, H⟩ := ob_ H
     by_cases c69 : (t1262 == t1266) = true
     case neg =>
      rw [if_neg c69] at H
      have c69b0 : (t1262 == t1266) = false := by simpa using c69
      (try (have c69b1 : decide (t1262 = t1266) = false := by simpa using c69))
      (try (have c69b2 : (t1262 == t1266) = false := by simpa using c69))
      (try (have c69b3 : ¬ (t1262 = t1266) := by simpa using c69))
      clear c69
      obtain rfl := Option.some.inj H
      go_wp2_with (first | ((with_reducible refine gt_ 47 rfl ?_); refine gs_ 125 Tryz.func47 #[.slice A1 l1.length c1] ?_; (with_reducible refine (spec_DrawRecordsOf.calls kj17 _ _ l1 t1258 _ ?side1 ?side2 A66.out).mono ?_); (case side1 => exact kC_ HR1.out HB.out); (case side2 => exact HC1.out); rintro e w77 ⟨v1259, rfl, ho0, hb⟩; refine ⟨_, rfl, ?_⟩; have HO1260 := a0_ (Kd.S_lower ho0 (below_size bq0_)); replace HB := a0_ (below_step bq0_ hb); clear hb; (try clear ho0); obtain ⟨Ao78, co78, eo78⟩ := Kd.S_slice HO1260.out; subst eo78) | ((with_reducible refine gt_ 15 rfl ?_); refine gs_ 128 Tryz.func15 #[.slice Ao78 t1258.length co78] ?_; (with_reducible refine (impl_RecordsOf.calls kj17 _ _ t1258 t1261 t1262 _ ?side1 ?side2 A67.out).mono ?_); (case side1 => repeat (first | exact (Kd.S_reads' HO1260.out).2.2 | (with_reducible refine Kd.C_alloc ?_ _) | (with_reducible refine Kd.C_drewN ?_ _) | (with_reducible refine Kd.C_drew ?_))); (case side2 => exact (Kd.S_reads' HO1260.out).2.1); rintro e w79 ⟨v1263, rfl, ho0, hb⟩; refine ⟨_, rfl, ?_⟩; replace HO1260 := a0_ (Kd.S_below (by (with_reducible repeat (first | apply Kd.S_alloc | apply Kd.S_drewN | apply Kd.S_drew)); exact HO1260.out) hb); have HO1264 := a0_ (Kd.R_lower ho0 (below_size bq0_)); replace HB := a0_ (below_step bq0_ hb); clear hb; (try clear ho0)) | ((with_reducible refine gt_ 13 rfl ?_); refine gs_ 133 Tryz.func13 #[.slice Ao78 t1258.length co78] ?_; (with_reducible refine (spec_RecordsOf.calls kj17 _ _ t1258 t1265 t1266 _ ?side1 ?side2 A68.out).mono ?_); (case side1 => repeat (first | exact (Kd.S_reads' HO1260.out).2.2 | (with_reducible refine Kd.C_alloc ?_ _) | (with_reducible refine Kd.C_drewN ?_ _) | (with_reducible refine Kd.C_drew ?_))); (case side2 => exact (Kd.S_reads' HO1260.out).2.1); rintro e w80 ⟨v1267, rfl, ho0, hb⟩; refine ⟨_, rfl, ?_⟩; replace HO1260 := a0_ (Kd.S_below (by (with_reducible repeat (first | apply Kd.S_alloc | apply Kd.S_drewN | apply Kd.S_drew)); exact HO1260.out) hb); have HO1268 := a0_ (Kd.R_lower (Kd.R_new' ho0 (Kd.R_lt (kR_ HO1264.out))) (below_size bq0_)); replace HO1264 := a0_ (Kd.R_elder' (kR_ HO1264.out) (Kd.R_base ho0) hb); replace HB := a0_ (below_step bq0_ hb); clear hb; (try clear ho0)))
      go_ret
      exact ⟨rr_, bq0_⟩
     rw [if_pos c69] at H
     have c69b0 : (t1262 == t1266) = true := c69
     (try (have c69b1 : decide (t1262 = t1266) = true := by simpa using c69))
     (try (have c69b2 : (t1262 == t1266) = true := by simpa using c69))
     clear c69
     obtain ⟨t1269, A70, H⟩ := ob_ H
     obtain rfl := Option.some.inj H
     go_wp2_with (first | ((with_reducible refine gt_ 47 rfl ?_); refine gs_ 125 Tryz.func47 #[.slice A1 l1.length c1] ?_; (with_reducible refine (spec_DrawRecordsOf.calls kj17 _ _ l1 t1258 _ ?side1 ?side2 A66.out).mono ?_); (case side1 => exact kC_ HR1.out HB.out); (case side2 => exact HC1.out); rintro e w71 ⟨v1259, rfl, ho0, hb⟩; refine ⟨_, rfl, ?_⟩; have HO1260 := a0_ (Kd.S_lower ho0 (below_size bq0_)); replace HB := a0_ (below_step bq0_ hb); clear hb; (try clear ho0); obtain ⟨Ao72, co72, eo72⟩ := Kd.S_slice HO1260.out; subst eo72) | ((with_reducible refine gt_ 15 rfl ?_); refine gs_ 128 Tryz.func15 #[.slice Ao72 t1258.length co72] ?_; (with_reducible refine (impl_RecordsOf.calls kj17 _ _ t1258 t1261 t1262 _ ?side1 ?side2 A67.out).mono ?_); (case side1 => repeat (first | exact (Kd.S_reads' HO1260.out).2.2 | (with_reducible refine Kd.C_alloc ?_ _) | (with_reducible refine Kd.C_drewN ?_ _) | (with_reducible refine Kd.C_drew ?_))); (case side2 => exact (Kd.S_reads' HO1260.out).2.1); rintro e w73 ⟨v1263, rfl, ho0, hb⟩; refine ⟨_, rfl, ?_⟩; replace HO1260 := a0_ (Kd.S_below (by (with_reducible repeat (first | apply Kd.S_alloc | apply Kd.S_drewN | apply Kd.S_drew)); exact HO1260.out) hb); have HO1264 := a0_ (Kd.R_lower ho0 (below_size bq0_)); replace HB := a0_ (below_step bq0_ hb); clear hb; (try clear ho0)) | ((with_reducible refine gt_ 13 rfl ?_); refine gs_ 133 Tryz.func13 #[.slice Ao72 t1258.length co72] ?_; (with_reducible refine (spec_RecordsOf.calls kj17 _ _ t1258 t1265 t1266 _ ?side1 ?side2 A68.out).mono ?_); (case side1 => repeat (first | exact (Kd.S_reads' HO1260.out).2.2 | (with_reducible refine Kd.C_alloc ?_ _) | (with_reducible refine Kd.C_drewN ?_ _) | (with_reducible refine Kd.C_drew ?_))); (case side2 => exact (Kd.S_reads' HO1260.out).2.1); rintro e w74 ⟨v1267, rfl, ho0, hb⟩; refine ⟨_, rfl, ?_⟩; replace HO1260 := a0_ (Kd.S_below (by (with_reducible repeat (first | apply Kd.S_alloc | apply Kd.S_drewN | apply Kd.S_drew)); exact HO1260.out) hb); have HO1268 := a0_ (Kd.R_lower (Kd.R_new' ho0 (Kd.R_lt (kR_ HO1264.out))) (below_size bq0_)); replace HO1264 := a0_ (Kd.R_elder' (kR_ HO1264.out) (Kd.R_base ho0) hb); replace HB := a0_ (below_step bq0_ hb); clear hb; (try clear ho0); obtain ⟨Ao75, co75, eo75⟩ := Kd.R_slice HO1264.out; subst eo75; obtain ⟨Ao76, co76, eo76⟩ := Kd.R_slice HO1268.out; subst eo76) | (go_at_call 48; (with_reducible refine (laws_sameRecords.calls kj17 _ _ t1261 _ _ t1265 t1269 _ ?side1 ?side2 ?side3 ?side4 A70.out).mono ?_); (case side1 => exact kD_ (Kd.R_reads' HO1264.out).2.2); (case side2 => exact (Kd.R_reads' HO1264.out).2.1); (case side3 => exact kD_ (Kd.R_reads' HO1268.out).2.2); (case side4 => exact (Kd.R_reads' HO1268.out).2.1); rintro e w' ⟨rfl, ⟨nd, rfl⟩⟩))
     go_ret
     exact ⟨rr_, bq0_⟩
def laws_FnSets.Pure : Prop := ∀ (l0 : List Int) (l1 : List Int), l0.length ≤ maxLen → l0.length * 1 ≤ 140737488351232 → (∀ x ∈ l0, (Lit.int .u8 x).wf = true) → l1.length ≤ maxLen → l1.length * 1 ≤ 140737488351232 → (∀ x ∈ l1, (Lit.int .u8 x).wf = true) → ∃ k, laws_FnSets.f k l0 l1 = some true
theorem laws_FnSets.walk (P : laws_FnSets.Pure) (a0 : Option Addr) (len0 cap0 : Nat) (z0 : List Int) (a1 : Option Addr) (len1 cap1 : Nat) (z1 : List Int) (w : World) (w0 : (a0 = none ∧ len0 = 0 ∧ cap0 = 0 ∧ z0 = []) ∨ ∃ x, a0 = some x ∧ len0 ≤ cap0 ∧ cap0 ≤ maxLen ∧ z0.length = cap0 ∧ (∀ i, i < z0.length → w.cell? (x.add i) = some (.int .u8 (z0.getD i 0))) ∧ ∀ n ∈ z0, (Lit.int .u8 n).wf = true) (y0 : len0 * 1 ≤ 140737488351232) (w1 : (a1 = none ∧ len1 = 0 ∧ cap1 = 0 ∧ z1 = []) ∨ ∃ x, a1 = some x ∧ len1 ≤ cap1 ∧ cap1 ≤ maxLen ∧ z1.length = cap1 ∧ (∀ i, i < z1.length → w.cell? (x.add i) = some (.int .u8 (z1.getD i 0))) ∧ ∀ n ∈ z1, (Lit.int .u8 n).wf = true) (y1 : len1 * 1 ≤ 140737488351232) (hv_ : Vars w) :
 Calls Tryz.prog 8 #[.slice a0 len0 cap0, .slice a1 len1 cap1] w fun e w' => e = .returned (.bool true) ∧ Below w.heap.size w w' := by
 obtain ⟨l0, rfl, hr0, hm0, hw0, hc0⟩ := ReadsInt.ofRowC w0
 obtain ⟨l1, rfl, hr1, hm1, hw1, hc1⟩ := ReadsInt.ofRowC w1
 obtain ⟨k, h⟩ := P l0 l1 hm0 y0 hw0 hm1 y1 hw1
 refine (laws_FnSets.calls k _ _ l0 _ _ l1 true w (Kd.C_of_reads (d := (0 : Int)) (h1 := fun _ => rfl) hr0) hc0 (Kd.C_of_reads (d := (0 : Int)) (h1 := fun _ => rfl) hr1) hc1 h).mono ?_
 rintro e w' ⟨rfl, hd⟩
 exact ⟨rfl, hd⟩
end Go.Proofs.YtiegkjimpclmaaaGreatDoor.P
namespace Go.Proofs.YtiegkjimpclmaaaGreatDoor.Pure
open Go.Proofs.YtiegkjimpclmaaaGreatDoor.P
abbrev badS : List SSet × Bool := (([] : List SSet), false)
def valT (o : Option (List SSet)) : List SSet × Bool := match o with | none => badS | some S => if (S.length : Int) > 40 then badS else (S, true)
theorem areRecs_ev : ∀ (l : List IRec), (∀ r ∈ l, SmR r) → Ev (fun k => impl_areRecords.f k l) (l.all gd)
 | [], _ => Ev.now true
 | x :: xs, h => by
  refine Ev.congr (fun k => rfl) (Ev.bind (gd_ev x (h x (by simp))).1 ?_)
  rw [List.all_cons]
  cases gd x with
  | true => simp only [if_true, Bool.true_and]; exact areRecs_ev xs (fun r hr => h r (by simp [hr]))
  | false => simp only [Bool.false_eq_true, if_false, Bool.false_and]; exact Ev.now false
theorem rdB (l : List ByteArray) (i : Nat) (h : i < l.length) : rdOf ByteArray.empty l (i : Int) = l[i] := mS_rd l i h
open Classical in
theorem index_ev (d : ByteArray) (l : List ByteArray) (hl : l.length < 1099511627776) : ∀ (m i : Nat), i + m = l.length → ∃ t : Int, Ev (fun k => slices_Index_string_string.l0 k l d (l.length : Int) (i : Int)) t ∧ (decide (t ≥ 0) = decide (d ∈ l.drop i))
 | 0, i, hi => by
  refine ⟨-1, Ev.step (f := fun _ => some (-1)) (fun k => ?_) (Ev.now _), ?_⟩
  · rw [slices_Index_string_string.l0, if_neg (by omega)]
  · rw [List.drop_of_length_le (by omega)]; simp
 | m + 1, i, hi => by
  have hlt : i < l.length := by omega
  have e0 : ∀ k, slices_Index_string_string.l0 (k + 1) l d (l.length : Int) (i : Int) = if d.toList = l[i].toList then some (i : Int) else slices_Index_string_string.l0 k l d (l.length : Int) (wrap64 ((i : Int) + 1)) := fun k => by
   rw [slices_Index_string_string.l0, if_pos (by omega), if_pos (by omega), if_pos (by omega), rdB l i hlt]
  rw [List.drop_eq_getElem_cons hlt]
  by_cases h : d = l[i]
  · refine ⟨(i : Int), Ev.step (f := fun _ => some (i : Int)) (fun k => ?_) (Ev.now _), ?_⟩
    · rw [e0, if_pos ((toL_iff _ _).2 h)]
    · rw [decide_eq_true (by omega), decide_eq_true (show d ∈ l[i] :: l.drop (i + 1) from List.mem_cons.2 (.inl h))]
  · obtain ⟨t, ht, hd⟩ := index_ev d l hl m (i + 1) (by omega)
    refine ⟨t, Ev.step (fun k => ?_) ht, ?_⟩
    · rw [e0, if_neg (fun e => h ((toL_iff _ _).1 e)), w64n (by omega)]
    · rw [hd]; simp only [List.mem_cons, h, false_or]
open Classical in
theorem contains_ev (d : ByteArray) (l : List ByteArray) (hl : l.length < 1099511627776) : Ev (fun k => slices_Contains_string_string.f k l d) (decide (d ∈ l)) := by
 obtain ⟨t, ht, hd⟩ := index_ev d l hl l.length 0 (by omega)
 rw [List.drop_zero] at hd
 refine Ev.congr (fun k => rfl) (Ev.bind (g := fun k => slices_Index_string_string.f k l d) ht ?_)
 show Ev (fun _ => some (decide (t ≥ 0))) _
 rw [hd]
 exact Ev.now _
theorem so_new (k : Nat) (acc : List SSet) (x7 : Int) (all : List IRec) (n i : Int) (a : ByteArray) (b c : Int) (d : ByteArray) : impl_SetsOf.j2 (k + 1) acc x7 all n i true a b c d = (if acc.length < 2513169434916 then (impl_SetsOf.l0 k (acc ++ [(⟨a, b, c, (([d] : List ByteArray))⟩ : SSet)]) all n (wrap64 (i + 1))) else (none)) := rfl
theorem so_same (k : Nat) (acc : List SSet) (x7 : Int) (all : List IRec) (n i : Int) (a : ByteArray) (b c : Int) (d : ByteArray) : impl_SetsOf.j2 (k + 1) acc x7 all n i false a b c d = (if 0 ≤ x7 then (if x7 < (acc.length : Int) then (if ((rd_T83 acc x7).f2) = c then ((slices_Contains_string_string.f k ((rd_T83 acc x7).f3) d).bind fun t558 => (if t558 = true then (impl_SetsOf.l0 k acc all n (wrap64 (i + 1))) else (if ((rd_T83 acc x7).f3).length < 8796093022208 then (impl_SetsOf.l0 k (acc.set (x7 : Int).toNat (⟨(rd_T83 acc x7).f0, (rd_T83 acc x7).f1, (rd_T83 acc x7).f2, (((rd_T83 acc x7).f3) ++ [d])⟩ : SSet)) all n (wrap64 (i + 1))) else (none)))) else (some badS)) else (none)) else (none)) := rfl
open Classical in
theorem so_loop (all : List IRec) (hl : all.length < 1099511627776) : ∀ (m i : Nat) (acc : List SSet), i + m = all.length → acc.length ≤ i → (∀ s ∈ acc, s.f3.length ≤ i) → Ev (fun k => impl_SetsOf.l0 k acc all (all.length : Int) (i : Int)) (valT (gfC acc (all.drop i)))
 | 0, i, acc, hi, ha, hs => by
  rw [List.drop_of_length_le (by omega)]
  refine Ev.step (f := fun _ => some (valT (some acc))) (fun k => ?_) (Ev.now _)
  show impl_SetsOf.l0 (k + 1) acc all (all.length : Int) (i : Int) = _
  rw [impl_SetsOf.l0, if_neg (by omega)]
  show _ = some (if (acc.length : Int) > 40 then badS else (acc, true))
  by_cases h : (acc.length : Int) > 40
  · rw [if_pos h, if_pos h]
  · rw [if_neg h, if_neg h]
 | m + 1, i, acc, hi, ha, hs => by
  have hlt : i < all.length := by omega
  have hw : wrap64 ((i : Int) + 1) = ((i + 1 : Nat) : Int) := w64n (by omega)
  rw [List.drop_eq_getElem_cons hlt]
  show Ev _ (valT ((gstepC acc all[i]).bind fun a => gfC a (all.drop (i + 1))))
  have hnew : ∀ x7 : Int, Ev (fun k => impl_SetsOf.j2 k acc x7 all (all.length : Int) (i : Int) true all[i].f0 all[i].f1 all[i].f2 all[i].f3) (valT (gfC (acc ++ [new all[i]]) (all.drop (i + 1)))) := by
   intro x7
   have ih := so_loop all hl m (i + 1) (acc ++ [new all[i]]) (by omega) (by rw [List.length_append, List.length_singleton]; omega) (fun s h => by
    rcases List.mem_append.1 h with h | h
    · have := hs s h; omega
    · rw [List.mem_singleton.1 h]; simp [new])
   refine Ev.step (fun k => ?_) ih
   rw [so_new, if_pos (by omega), hw]
   rfl
  have e0 : ∀ k, impl_SetsOf.l0 (k + 1) acc all (all.length : Int) (i : Int) = (if (wrap64 ((acc.length : Int) - 1)) < 0 then (impl_SetsOf.j2 k acc (wrap64 ((acc.length : Int) - 1)) all (all.length : Int) (i : Int) true all[i].f0 all[i].f1 all[i].f2 all[i].f3) else (if 0 ≤ (wrap64 ((acc.length : Int) - 1)) then (if (wrap64 ((acc.length : Int) - 1)) < (acc.length : Int) then (if ((rd_T83 acc (wrap64 ((acc.length : Int) - 1))).f0).toList = all[i].f0.toList then (impl_SetsOf.j2 k acc (wrap64 ((acc.length : Int) - 1)) all (all.length : Int) (i : Int) (((rd_T83 acc (wrap64 ((acc.length : Int) - 1))).f1) != all[i].f1) all[i].f0 all[i].f1 all[i].f2 all[i].f3) else (impl_SetsOf.j2 k acc (wrap64 ((acc.length : Int) - 1)) all (all.length : Int) (i : Int) true all[i].f0 all[i].f1 all[i].f2 all[i].f3)) else (none)) else (none))) := fun k => by
   rw [impl_SetsOf.l0, if_pos (by omega), if_pos (by omega), if_pos (by omega), rdI all i hlt]
  refine Ev.step e0 ?_
  unfold gstepC
  rcases List.eq_nil_or_concat acc with rfl | ⟨pre, q, rfl⟩
  · have hww : wrap64 ((([] : List SSet).length : Int) - 1) = -1 := by show wrap64 (((0 : Nat) : Int) - 1) = -1; unfold wrap64; omega
    simp only [hww, if_pos (show ((-1 : Int) < 0) by omega), List.getLast?_nil, Option.bind_some]
    exact hnew _
  · rw [List.concat_eq_append] at *
    have hlen : (pre ++ [q]).length = pre.length + 1 := by simp
    have hww : wrap64 (((pre ++ [q]).length : Int) - 1) = (pre.length : Int) := by rw [hlen, w64p (by omega) (by omega)]; rfl
    have hrd : rd_T83 (pre ++ [q]) (pre.length : Int) = q := by rw [rdSS _ _ (by omega)]; simp
    simp only [hww, hrd, if_neg (show ¬ (pre.length : Int) < 0 by omega), if_pos (show (0 : Int) ≤ (pre.length : Int) by omega), if_pos (show (pre.length : Int) < ((pre ++ [q]).length : Int) by omega), List.getLast?_append, List.getLast?_singleton, Option.some_or]
    by_cases h0 : q.f0 = all[i].f0
    · simp only [if_pos ((toL_iff _ _).2 h0)]
      by_cases h1 : q.f1 = all[i].f1
      · rw [if_pos ⟨h0, h1⟩, show (q.f1 != all[i].f1) = false by rw [h1]; exact bne_self_eq_false _]
        by_cases h2 : q.f2 = all[i].f2
        · rw [if_pos h2]
          have hq3 := hs q (by simp)
          have e1 : ∀ k, impl_SetsOf.j2 (k + 1) (pre ++ [q]) (pre.length : Int) all (all.length : Int) (i : Int) false all[i].f0 all[i].f1 all[i].f2 all[i].f3 = ((slices_Contains_string_string.f k q.f3 all[i].f3).bind fun t558 => (if t558 = true then (impl_SetsOf.l0 k (pre ++ [q]) all (all.length : Int) (wrap64 ((i : Int) + 1))) else (impl_SetsOf.l0 k ((pre ++ [q]).set pre.length (⟨q.f0, q.f1, q.f2, q.f3 ++ [all[i].f3]⟩ : SSet)) all (all.length : Int) (wrap64 ((i : Int) + 1))))) := fun k => by
           rw [so_same, if_pos (by omega), if_pos (by omega), hrd, if_pos h2, Int.toNat_natCast]
           simp only [if_pos (show q.f3.length < 8796093022208 by omega)]
          refine Ev.step e1 (Ev.bind (contains_ev all[i].f3 q.f3 (by omega)) ?_)
          by_cases hc : all[i].f3 ∈ q.f3
          · simp only [decide_eq_true hc, if_true, if_pos hc, Option.bind_some, hw]
            exact so_loop all hl m (i + 1) (pre ++ [q]) (by omega) (by omega) (fun s h => by have := hs s h; omega)
          · have hset : (pre ++ [q]).set ((pre ++ [q]).length - 1) (⟨q.f0, q.f1, q.f2, q.f3 ++ [all[i].f3]⟩ : SSet) = (pre ++ [q]).set pre.length (⟨q.f0, q.f1, q.f2, q.f3 ++ [all[i].f3]⟩ : SSet) := by rw [hlen, Nat.add_sub_cancel]
            simp only [decide_eq_false hc, Bool.false_eq_true, if_false, if_neg hc, Option.bind_some, hw, hset]
            exact so_loop all hl m (i + 1) ((pre ++ [q]).set pre.length (⟨q.f0, q.f1, q.f2, q.f3 ++ [all[i].f3]⟩ : SSet)) (by omega) (by rw [List.length_set]; omega) (fun s h => by
             rcases List.mem_or_eq_of_mem_set h with h | rfl
             · have := hs s h; omega
             · show (q.f3 ++ [all[i].f3]).length ≤ i + 1
               rw [List.length_append, List.length_singleton]; omega)
        · rw [if_neg h2]
          refine Ev.step (f := fun _ => some badS) (fun k => ?_) (Ev.now _)
          rw [so_same, if_pos (by omega), if_pos (by omega), hrd, if_neg h2]
      · rw [if_neg (fun h => h1 h.2), show (q.f1 != all[i].f1) = true from bne_iff_ne.2 h1, Option.bind_some]
        exact hnew _
    · simp only [if_neg (fun h => h0 ((toL_iff _ _).1 h))]
      rw [if_neg (fun h => h0 h.1), Option.bind_some]
      exact hnew _
theorem goods_all {l : List IRec} (hs : ∀ r ∈ l, SmR r) (h : l.all gd = true) : Goods l := fun x hx => ⟨hs x hx, List.all_eq_true.1 h x hx⟩
open Classical in
noncomputable def setsV (l : List IRec) : List SSet × Bool := if l.length ≤ 60 ∧ l.all gd = true then valT (gf [] (uniq l)) else badS
theorem implSO_ev (l : List IRec) (hs : ∀ r ∈ l, SmR r) : Ev (fun k => impl_SetsOf.f k l) (setsV l) := by
 unfold setsV
 have hbad : Ev (fun k => impl_SetsOf.j0 k l true) badS := Ev.step (f := fun _ => some badS) (fun k => rfl) (Ev.now _)
 by_cases hc : l.length ≤ 60
 · have e0 : ∀ k, impl_SetsOf.f k l = ((impl_areRecords.f k l).bind fun t539 => (impl_SetsOf.j0 k l (!t539))) := fun k => by unfold impl_SetsOf.f; rw [if_neg (by omega)]
   refine Ev.congr e0 (Ev.bind (areRecs_ev l hs) ?_)
   cases hg : l.all gd with
   | false => rw [if_neg (fun h => by cases h.2)]; exact hbad
   | true =>
    rw [if_pos ⟨hc, rfl⟩]
    have hG := goods_all hs hg
    have hf : slices_SortedFunc_rec.f l = some (inOrder l) := if_pos ⟨hc, hG⟩
    have hlen : (inOrder l).length = l.length := (inOrder_spec hG).1.length_eq
    have := so_loop (inOrder l) (by omega) (inOrder l).length 0 [] (by omega) (by simp) (fun s h => by cases h)
    rw [List.drop_zero, gf_uniq hG] at this
    refine Ev.step (fun k => ?_) this
    show impl_SetsOf.j0 (k + 1) l false = _
    rw [impl_SetsOf.j0, if_neg (by decide), hf, Option.bind_some]
    rfl
 · rw [if_neg (fun h => hc h.1)]
   exact Ev.congr (fun k => by unfold impl_SetsOf.f; rw [if_pos (by omega)]) hbad
theorem rec_eq (x : IRec) (a : ByteArray) (b c : Int) (d : ByteArray) : ((x.f0.toList == a.toList) && ((x.f1 == b) && ((x.f2 == c) && (x.f3.toList == d.toList)))) = true ↔ x = ⟨a, b, c, d⟩ := by
 simp only [Bool.and_eq_true, beq_iff_eq, toL_iff]
 constructor
 · rintro ⟨h0, h1, h2, h3⟩; cases x; simp only at h0 h1 h2 h3; subst h0 h1 h2 h3; rfl
 · rintro rfl; exact ⟨rfl, rfl, rfl, rfl⟩
theorem put_out (k : Nat) (l : List IRec) (i : Nat) (r : IRec) (hl : l.length < 1099511627776) (hi : i ≤ l.length) : spec_l3Put.j2 (k + 1) l (i : Int) false r.f0 r.f1 r.f2 r.f3 = some (l.take i ++ r :: l.drop i) := by
 have h1 : (l.take i).length ≤ i := by rw [List.length_take]; omega
 have h2 : (l.drop i).length ≤ l.length := by rw [List.length_drop]; omega
 rw [spec_l3Put.j2, if_neg (by decide), if_pos (by omega), if_pos (by omega), Option.bind_some, Int.toNat_natCast, if_pos (by simp only [List.length_nil]; omega), Option.bind_some, List.nil_append, if_pos (by omega), Option.bind_some, Option.bind_some, if_pos (by simp only [List.length_append, List.length_cons, List.length_nil]; omega)]
 simp
theorem put_loop (l : List IRec) (r : IRec) (hr : SmR r ∧ gd r = true) (hG : Goods l) (hl : l.length < 1099511627776) : ∀ (m i : Nat), i + m = l.length → Ev (fun k => spec_l3Put.l0 k l (i : Int) r.f0 r.f1 r.f2 r.f3) (l.take i ++ insS r (l.drop i))
 | 0, i, hi => by
  rw [List.drop_of_length_le (by omega)]
  refine Ev.step (f := fun k => spec_l3Put.j1 k l (i : Int) false r.f0 r.f1 r.f2 r.f3) (fun k => ?_) (Ev.step (f := fun k => spec_l3Put.j2 k l (i : Int) false r.f0 r.f1 r.f2 r.f3) (fun k => ?_) (Ev.step (f := fun _ => some (l.take i ++ [r])) (fun k => ?_) (Ev.now _)))
  · rw [spec_l3Put.l0, if_neg (by omega)]
  · rw [spec_l3Put.j1, if_neg (by decide), if_neg (by omega)]
  · rw [put_out k l i r hl (by omega), List.drop_of_length_le (by omega)]
 | m + 1, i, hi => by
  have hlt : i < l.length := by omega
  have hy := hG l[i] (List.getElem_mem hlt)
  have e0 : ∀ k, spec_l3Put.l0 (k + 1) l (i : Int) r.f0 r.f1 r.f2 r.f3 = (spec_l3Compare.f k l[i].f0 l[i].f1 l[i].f2 l[i].f3 r.f0 r.f1 r.f2 r.f3).bind fun t494 => (spec_l3Put.j1 k l (i : Int) (decide (t494 < 0)) r.f0 r.f1 r.f2 r.f3) := fun k => by
   rw [spec_l3Put.l0, if_pos (by omega), if_pos (by omega), rdI l i hlt]
  refine Ev.step e0 (Ev.bind (od_ev hy.1 hr.1 hy.2 hr.2).2 ?_)
  rw [List.drop_eq_getElem_cons hlt]
  unfold insS
  by_cases h : od l[i] r < 0
  · rw [if_pos h, decide_eq_true h]
    have ih := put_loop l r hr hG hl m (i + 1) (by omega)
    rw [List.take_succ_eq_append_getElem hlt, List.append_assoc, List.singleton_append] at ih
    refine Ev.step (fun k => ?_) ih
    rw [spec_l3Put.j1, if_pos rfl, w64n (by omega)]
  · rw [if_neg h, decide_eq_false h]
    have e1 : ∀ k, spec_l3Put.j1 (k + 1) l (i : Int) false r.f0 r.f1 r.f2 r.f3 = spec_l3Put.j2 k l (i : Int) ((l[i].f0.toList == r.f0.toList) && ((l[i].f1 == r.f1) && ((l[i].f2 == r.f2) && (l[i].f3.toList == r.f3.toList)))) r.f0 r.f1 r.f2 r.f3 := fun k => by
     rw [spec_l3Put.j1, if_neg (by decide), if_pos (by omega), if_pos (by omega), rdI l i hlt]
    refine Ev.step e1 ?_
    by_cases c : l[i] = r
    · rw [if_pos c, (rec_eq l[i] r.f0 r.f1 r.f2 r.f3).2 c]
      refine Ev.step (f := fun _ => some l) (fun k => rfl) ?_
      have : l.take i ++ l[i] :: l.drop (i + 1) = l := by rw [← List.drop_eq_getElem_cons hlt, List.take_append_drop]
      rw [this]
      exact Ev.now _
    · have hb : ((l[i].f0.toList == r.f0.toList) && ((l[i].f1 == r.f1) && ((l[i].f2 == r.f2) && (l[i].f3.toList == r.f3.toList)))) = false := Bool.eq_false_iff.2 (fun h => c ((rec_eq l[i] r.f0 r.f1 r.f2 r.f3).1 h))
      rw [if_neg c, hb]
      refine Ev.step (fun k => put_out k l i r hl (by omega)) ?_
      rw [List.drop_eq_getElem_cons hlt]
      exact Ev.now _
theorem put_ev (l : List IRec) (r : IRec) (hr : SmR r ∧ gd r = true) (hG : Goods l) (hl : l.length < 1099511627776) : Ev (fun k => spec_l3Put.f k l r.f0 r.f1 r.f2 r.f3) (insS r l) := by
 have := put_loop l r hr hG hl l.length 0 (by omega)
 rw [List.take_zero, List.nil_append, List.drop_zero] at this
 exact this
theorem valG_T (l : List IRec) (n : Nat) (o : Option (List SSet)) : (if (valG o).2 = true then (if (n : Int) > 60 then (some badS) else (some ((valG o).1, true))) else (some badS)) = some (if n ≤ 60 then valT o else badS) := by
 cases o with
 | none => unfold valG valT; simp
 | some S =>
  show (if decide ((S.length : Int) ≤ 40) = true then (if (n : Int) > 60 then (some badS) else (some (S, true))) else (some badS)) = some (if n ≤ 60 then (if (S.length : Int) > 40 then badS else (S, true)) else badS)
  by_cases h1 : (S.length : Int) ≤ 40
  · rw [if_pos (decide_eq_true h1), if_neg (show ¬ (S.length : Int) > 40 by omega)]
    by_cases h2 : n ≤ 60
    · rw [if_pos h2, if_neg (by omega)]
    · rw [if_neg h2, if_pos (by omega)]
  · rw [if_neg (by simpa using h1), if_pos (show (S.length : Int) > 40 by omega)]
    simp
theorem sso_loop (l : List IRec) (hl : l.length ≤ 1048576) (hs : ∀ r ∈ l, SmR r) : ∀ (m i : Nat) (acc : List IRec), i + m = l.length → acc.length ≤ i → Goods acc → Ev (fun k => spec_SetsOf.l0 k l acc l (l.length : Int) (i : Int)) (if (l.drop i).all gd = true then (if l.length ≤ 60 then valT (gf [] (insAll acc (l.drop i))) else badS) else badS)
 | 0, i, acc, hi, ha, hG => by
  rw [List.drop_of_length_le (by omega), List.all_nil, if_pos rfl]
  refine Ev.step (f := fun k => (spec_l3Sets.f k acc).bind fun bt513 => (if bt513.2 = true then (if (l.length : Int) > 60 then (some badS) else (some (bt513.1, true))) else (some badS))) (fun k => ?_) (Ev.bind (l3_ev acc (by omega)) ?_)
  · rw [spec_SetsOf.l0, if_neg (by omega)]
  · rw [valG_T l l.length]
    exact Ev.now _
 | m + 1, i, acc, hi, ha, hG => by
  have hlt : i < l.length := by omega
  have hr := hs l[i] (List.getElem_mem hlt)
  have e0 : ∀ k, spec_SetsOf.l0 (k + 1) l acc l (l.length : Int) (i : Int) = (spec_GoodRecord.f k l[i].f0 l[i].f1 l[i].f2 l[i].f3).bind fun t519 => (if t519 = true then ((spec_l3Put.f k acc l[i].f0 l[i].f1 l[i].f2 l[i].f3).bind fun t520 => (spec_SetsOf.l0 k l t520 l (l.length : Int) (wrap64 ((i : Int) + 1)))) else (some badS)) := fun k => by
   rw [spec_SetsOf.l0, if_pos (by omega), if_pos (by omega), if_pos (by omega), rdI l i hlt]
  refine Ev.step e0 (Ev.bind (gd_ev l[i] hr).2 ?_)
  rw [List.drop_eq_getElem_cons hlt, List.all_cons]
  cases hg : gd l[i] with
  | false => simp only [Bool.false_eq_true, if_false, Bool.false_and]; exact Ev.now _
  | true =>
   simp only [if_true, Bool.true_and]
   refine Ev.bind (put_ev acc l[i] ⟨hr, hg⟩ hG (by omega)) ?_
   rw [w64n (by omega)]
   have hlen := insS_len l[i] acc
   exact sso_loop l hl hs m (i + 1) (insS l[i] acc) (by omega) (by omega) (fun z hz => by
    rcases (insS_mem l[i] acc z).1 hz with rfl | hz
    · exact ⟨hr, hg⟩
    · exact hG z hz)
theorem specSO_ev (l : List IRec) (hl : l.length ≤ 1048576) (hs : ∀ r ∈ l, SmR r) : Ev (fun k => spec_SetsOf.f k l) (setsV l) := by
 have h := sso_loop l hl hs l.length 0 [] (by omega) (by simp) (fun z hz => by cases hz)
 rw [List.drop_zero] at h
 refine Ev.congr (fun k => rfl) ?_
 have e : setsV l = (if l.all gd = true then (if l.length ≤ 60 then valT (gf [] (insAll [] l)) else badS) else badS) := by
  unfold setsV
  cases hg : l.all gd with
  | false => rw [if_neg (fun h => by cases h.2), if_neg (by decide)]
  | true =>
   rw [insAll_uniq (goods_all hs hg), if_pos rfl]
   by_cases hc : l.length ≤ 60
   · rw [if_pos ⟨hc, rfl⟩, if_pos hc]
   · rw [if_neg (fun h => hc h.1), if_neg hc]
 rw [e]
 exact h
end Go.Proofs.YtiegkjimpclmaaaGreatDoor.Pure
namespace Go.Proofs.YtiegkjimpclmaaaGreatDoor.Pure
open Go.Proofs.YtiegkjimpclmaaaGreatDoor.P
theorem recs_loop {l : List Int} (hl : Bytes l) : ∀ (m : Nat) (acc : List IRec) (at_ sd : Int) (n : Nat), Cur at_ n → n + 50 * m < 4611686018427300000 → acc.length + m ≤ 61 → (∀ r ∈ acc, SmR r) →
 ∃ out at2 sd2, Ev (fun k => spec_l1Cur_records.l0 k acc (m : Int) l at_ sd) (out, at2, sd2) ∧ out.length = acc.length + m ∧ (∀ r ∈ out, SmR r) ∧ Cur at2 (n + 50 * m)
 | 0, acc, at_, sd, n, hc, hn, ha, hs => by
  refine ⟨acc, at_, sd, Ev.step (f := fun _ => some (acc, at_, sd)) (fun k => ?_) (Ev.now _), by omega, hs, cur_up hc (by omega)⟩
  show spec_l1Cur_records.l0 (k + 1) acc ((0 : Nat) : Int) l at_ sd = _
  rw [spec_l1Cur_records.l0, if_neg (by omega)]
 | m + 1, acc, at_, sd, n, hc, hn, ha, hs => by
  obtain ⟨a, b, c, d, at2, sd2, e1, h1, h2, hc2⟩ := rec_some hl hc (by omega) (sd := sd)
  obtain ⟨x, at3, sd3, e2, hc3⟩ := one_some hl hc2 (by omega) (sd := sd2) 6
  have hw : wrap64 (((m + 1 : Nat) : Int) - 1) = (m : Int) := by unfold wrap64; omega
  have go : ∀ ttl : Int, ∃ out at4 sd4, Ev (fun k => spec_l1Cur_records.l0 k (acc ++ [(⟨a, b, ttl, d⟩ : IRec)]) (m : Int) l at3 sd3) (out, at4, sd4) ∧ out.length = acc.length + (m + 1) ∧ (∀ r ∈ out, SmR r) ∧ Cur at4 (n + 50 * (m + 1)) := by
   intro ttl
   obtain ⟨out, at4, sd4, e, hlen, hs', hc4⟩ := recs_loop hl m (acc ++ [(⟨a, b, ttl, d⟩ : IRec)]) at3 sd3 (n + 42) hc3 (by omega) (by rw [List.length_append, List.length_singleton]; omega) (fun r hr => by
    rcases List.mem_append.1 hr with h | h
    · exact hs r h
    · rw [List.mem_singleton.1 h]; exact ⟨by show a.size ≤ 1048576; omega, by show d.size ≤ 1048576; omega⟩)
   exact ⟨out, at4, sd4, e, by rw [hlen, List.length_append, List.length_singleton]; omega, hs', cur_up hc4 (by omega)⟩
  have e0 : ∀ k, spec_l1Cur_records.l0 (k + 1) acc ((m + 1 : Nat) : Int) l at_ sd = (spec_l1Cur_record.f k l at_ sd).bind fun bt1164 => ((spec_l1Cur_one.f l bt1164.2.2.2.2.1 bt1164.2.2.2.2.2 6).bind fun bt1171 => (if bt1171.1 = true then (if acc.length < 2932031007402 then (spec_l1Cur_records.l0 k (acc ++ [(⟨bt1164.1, bt1164.2.1, bt1164.2.2.1, bt1164.2.2.2.1⟩ : IRec)]) (m : Int) l bt1171.2.1 bt1171.2.2) else (none)) else (if acc.length < 2932031007402 then (spec_l1Cur_records.l0 k (acc ++ [(⟨bt1164.1, bt1164.2.1, 60, bt1164.2.2.2.1⟩ : IRec)]) (m : Int) l bt1171.2.1 bt1171.2.2) else (none)))) := fun k => by
   rw [spec_l1Cur_records.l0, if_pos (by omega), hw]
  have hlt : acc.length < 2932031007402 := by omega
  cases x with
  | true =>
   obtain ⟨out, at4, sd4, e, r1, r2, r3⟩ := go c
   refine ⟨out, at4, sd4, Ev.step e0 (Ev.bind e1 ?_), r1, r2, r3⟩
   simp only [e2, Option.bind_some, if_true, if_pos hlt]
   exact e
  | false =>
   obtain ⟨out, at4, sd4, e, r1, r2, r3⟩ := go 60
   refine ⟨out, at4, sd4, Ev.step e0 (Ev.bind e1 ?_), r1, r2, r3⟩
   simp only [e2, Option.bind_some, Bool.false_eq_true, if_false, if_pos hlt]
   exact e
theorem records_some {l : List Int} (hl : Bytes l) {at_ sd : Int} {n : Nat} (hc : Cur at_ n) (hn : n < 4611686018427200000) :
 ∃ out at2 sd2, Ev (fun k => spec_l1Cur_records.f k l at_ sd) (out, at2, sd2) ∧ out.length ≤ 61 ∧ (∀ r ∈ out, SmR r) ∧ Cur at2 (n + 4000) := by
 obtain ⟨i, at2, sd2, e1, hi, hc2⟩ := pick_some hl hc (by omega) (sd := sd) 9
 obtain ⟨x, at3, sd3, e2, hc3⟩ := one_some hl hc2 (by omega) (sd := sd2) 30
 have go : ∀ m : Nat, m ≤ 61 → ∃ out at4 sd4, Ev (fun k => spec_l1Cur_records.j0 k ([] : List IRec) (m : Int) l at3 sd3) (out, at4, sd4) ∧ out.length ≤ 61 ∧ (∀ r ∈ out, SmR r) ∧ Cur at4 (n + 4000) := by
  intro m hm
  obtain ⟨out, at4, sd4, e, hlen, hs, hc4⟩ := recs_loop hl m [] at3 sd3 (n + 4) hc3 (by omega) (by simp only [List.length_nil]; omega) (fun r hr => by cases hr)
  exact ⟨out, at4, sd4, Ev.step (fun k => rfl) e, by rw [hlen]; simp only [List.length_nil]; omega, hs, cur_up hc4 (by omega)⟩
 cases x with
 | true =>
  obtain ⟨out, at4, sd4, e, r1, r2, r3⟩ := go 61 (by omega)
  refine ⟨out, at4, sd4, Ev.congr (fun k => ?_) e, r1, r2, r3⟩
  unfold spec_l1Cur_records.f
  rw [e1, Option.bind_some, e2, Option.bind_some]
  rfl
 | false =>
  obtain ⟨j, rfl⟩ := Int.eq_ofNat_of_zero_le hi.1
  obtain ⟨out, at4, sd4, e, r1, r2, r3⟩ := go j (by omega)
  refine ⟨out, at4, sd4, Ev.congr (fun k => ?_) e, r1, r2, r3⟩
  unfold spec_l1Cur_records.f
  rw [e1, Option.bind_some, e2, Option.bind_some]
  rfl
theorem setsV_true {l : List IRec} {S : List SSet} (h : setsV l = (S, true)) : l.length ≤ 60 ∧ l.all gd = true ∧ gf [] (uniq l) = some S ∧ S.length ≤ 40 := by
 unfold setsV at h
 split at h
 · rename_i hc
   refine ⟨hc.1, hc.2, ?_⟩
   cases hg : gf [] (uniq l) with
   | none => rw [hg] at h; exact Bool.noConfusion (congrArg Prod.snd h)
   | some T =>
    rw [hg] at h
    replace h : (if (T.length : Int) > 40 then badS else (T, true)) = (S, true) := h
    split at h
    · exact Bool.noConfusion (congrArg Prod.snd h)
    · obtain ⟨rfl, _⟩ := Prod.mk.inj h
      exact ⟨rfl, by omega⟩
 · exact Bool.noConfusion (congrArg Prod.snd h)
theorem setsV_false {l : List IRec} {S : List SSet} (h : setsV l = (S, false)) : S = [] := by
 unfold setsV at h
 split at h
 · cases hg : gf [] (uniq l) with
   | none => rw [hg] at h; exact (congrArg Prod.fst h).symm
   | some T =>
    rw [hg] at h
    replace h : (if (T.length : Int) > 40 then badS else (T, true)) = (S, false) := h
    split at h
    · exact (congrArg Prod.fst h).symm
    · exact Bool.noConfusion (congrArg Prod.snd h)
 · exact (congrArg Prod.fst h).symm
theorem sets_small {l : List IRec} {S : List SSet} (hs : ∀ r ∈ l, SmR r) (h : setsV l = (S, true)) : S.flatMap recsOf = uniq l ∧ (∀ s ∈ S, s.f3 ≠ []) ∧ (∀ s ∈ S, SmS s) ∧ ∀ s ∈ S, s.f3.length ≤ 60 := by
 obtain ⟨h60, hg, hf, h40⟩ := setsV_true h
 have hG := goods_all hs hg
 have hfl : S.flatMap recsOf = uniq l := by rw [gf_flat _ _ _ hf]; simp
 have hne := gf_full _ _ _ hf (fun s hs => by cases hs)
 have hin : ∀ s ∈ S, ∀ d ∈ s.f3, SmR (⟨s.f0, s.f1, s.f2, d⟩ : IRec) := fun s hs' d hd => by
  have : (⟨s.f0, s.f1, s.f2, d⟩ : IRec) ∈ uniq l := by
   rw [← hfl]
   exact List.mem_flatMap.2 ⟨s, hs', List.mem_map.2 ⟨d, hd, rfl⟩⟩
  exact hs _ (((uniq_spec hG).2.1 _).1 this)
 refine ⟨hfl, hne, fun s hs' => ?_, fun s hs' => ?_⟩
 · obtain ⟨d, ds, hd⟩ := List.exists_cons_of_ne_nil (hne s hs')
   exact ⟨(hin s hs' d (by rw [hd]; simp)).1, fun z hz => (hin s hs' z hz).2⟩
 · have h1 : s.f3.length ≤ cntS S := by
    clear hfl hne hin hf h40 h
    induction S with
    | nil => cases hs'
    | cons x S ih =>
     rw [cntS_cons]
     rcases List.mem_cons.1 hs' with rfl | hs'
     · omega
     · have := ih hs'; omega
   have h2 : cntS S = (uniq l).length := by rw [← flat_len, hfl]
   have := (uniq_spec hG).2.2
   omega
theorem cntS_mul (c : Nat) : ∀ (S : List SSet), (∀ s ∈ S, s.f3.length ≤ c) → cntS S ≤ S.length * c
 | [], _ => by simp [cntS]
 | s :: S, h => by
  have h1 := h s (by simp)
  have h2 := cntS_mul c S (fun t ht => h t (by simp [ht]))
  rw [cntS_cons, List.length_cons, Nat.add_mul, Nat.one_mul]
  omega
theorem drawRecs_some {l : List Int} (hl : Bytes l) : ∃ t, Ev (fun k => spec_DrawRecordsOf.f k l) t ∧ t.length + cntS t ≤ 1048576 ∧ ∀ s ∈ t, SmS s := by
 obtain ⟨out, at2, sd2, e1, hlen, hs, hc2⟩ := records_some hl (at_ := 0) (sd := 0) (n := 0) ⟨by omega, by omega⟩ (by omega)
 obtain ⟨⟨S, b⟩, hSb⟩ : ∃ p, p = setsV out := ⟨_, rfl⟩
 have e2 := specSO_ev out (by omega) hs
 rw [← hSb] at e2
 have hS : S.length ≤ 40 ∧ (∀ s ∈ S, s.f3 ≠ []) ∧ (∀ s ∈ S, SmS s) ∧ ∀ s ∈ S, s.f3.length ≤ 60 := by
  cases b with
  | true =>
   obtain ⟨q1, q2, q3, q4⟩ := sets_small hs hSb.symm
   exact ⟨(setsV_true hSb.symm).2.2.2, q2, q3, q4⟩
  | false =>
   obtain rfl := setsV_false hSb.symm
   exact ⟨by simp, fun s h => (List.not_mem_nil h).elim, fun s h => (List.not_mem_nil h).elim, fun s h => (List.not_mem_nil h).elim⟩
 obtain ⟨h40, hne, hsm, h60⟩ := hS
 have fine : ∀ t : List SSet, t.length = S.length → (∀ s ∈ t, SmS s ∧ s.f3.length ≤ 61) → t.length + cntS t ≤ 1048576 ∧ ∀ s ∈ t, SmS s := fun t h1 h2 => by
  have := cntS_mul 61 t (fun s h => (h2 s h).2)
  have h3 : t.length * 61 ≤ 40 * 61 := Nat.mul_le_mul_right _ (by omega)
  exact ⟨by omega, fun s h => (h2 s h).1⟩
 have hold : ∀ s ∈ S, SmS s ∧ s.f3.length ≤ 61 := fun s h => ⟨hsm s h, by have := h60 s h; omega⟩
 have hj0 : ∀ a d : Int, Ev (fun k => spec_DrawRecordsOf.j0 k S false l a d) S := fun a d => Ev.step (f := fun _ => some S) (fun k => rfl) (Ev.now _)
 have plain : (S.length : Int) > 0 → ∀ x at3 sd3, Cur at3 10000 → x = true → ∃ t, Ev (fun k => spec_DrawRecordsOf.j0 k S x l at3 sd3) t ∧ t.length + cntS t ≤ 1048576 ∧ ∀ s ∈ t, SmS s := by
  intro hpos x at3 sd3 hc3 hx
  subst hx
  obtain ⟨i, at4, sd4, e4, hi, hc4⟩ := pick_some hl hc3 (by omega) (sd := sd3) (S.length : Int)
  obtain ⟨c, at5, sd5, e5, hc, hc5⟩ := pick_some hl hc4 (by omega) (sd := sd4) 3
  obtain ⟨j, rfl⟩ := Int.eq_ofNat_of_zero_le hi.1
  have hj : j < S.length := by omega
  have hsj := hold S[j] (List.getElem_mem hj)
  have put : ∀ s' : SSet, SmS s' → s'.f3.length ≤ 61 → (S.set j s').length + cntS (S.set j s') ≤ 1048576 ∧ ∀ s ∈ S.set j s', SmS s := fun s' h1 h2 => fine _ (by rw [List.length_set]) (fun s h => by
   rcases List.mem_or_eq_of_mem_set h with h | rfl
   · exact hold s h
   · exact ⟨h1, h2⟩)
  have hrd : rd_T83 S ((j : Nat) : Int) = S[j] := rdSS S j hj
  by_cases c0 : c = 0
  · refine ⟨S.set j ⟨S[j].f0, S[j].f1, S[j].f2, []⟩, Ev.step (f := fun _ => some (S.set j ⟨S[j].f0, S[j].f1, S[j].f2, []⟩)) (fun k => ?_) (Ev.now _), put _ ⟨hsj.1.1, fun z hz => by cases hz⟩ (by simp)⟩
    show spec_DrawRecordsOf.j0 (k + 1) S true l at3 sd3 = _
    rw [spec_DrawRecordsOf.j0, if_pos rfl, e4, Option.bind_some]
    show ((spec_l1Cur_pick.f l at4 sd4 3).bind _) = _
    rw [e5, Option.bind_some]
    simp only [if_pos c0, if_pos (show (0 : Int) ≤ ((j : Nat) : Int) by omega), if_pos (show ((j : Nat) : Int) < (S.length : Int) by omega), hrd, Int.toNat_natCast]
  · by_cases c1 : c = 1
    · obtain ⟨nm, at6, sd6, e6, h6, hc6⟩ := name_some hl hc5 (by omega) (sd := sd5)
      refine ⟨S.set j ⟨nm, S[j].f1, S[j].f2, S[j].f3⟩, Ev.step (f := fun k => (spec_l1Cur_name.f k l at5 sd5).bind fun bt1217 => some (S.set j ⟨bt1217.1, S[j].f1, S[j].f2, S[j].f3⟩)) (fun k => ?_) (Ev.bind e6 (Ev.now _)), put _ ⟨by show nm.size ≤ 1048576; omega, hsj.1.2⟩ hsj.2⟩
      show spec_DrawRecordsOf.j0 (k + 1) S true l at3 sd3 = _
      rw [spec_DrawRecordsOf.j0, if_pos rfl, e4, Option.bind_some]
      show ((spec_l1Cur_pick.f l at4 sd4 3).bind _) = _
      rw [e5, Option.bind_some]
      simp only [if_neg c0, if_pos c1, if_pos (show (0 : Int) ≤ ((j : Nat) : Int) by omega), if_pos (show ((j : Nat) : Int) < (S.length : Int) by omega), hrd, Int.toNat_natCast]
    · have hn := hne S[j] (List.getElem_mem hj)
      have hpos3 : 0 < S[j].f3.length := List.length_pos_iff.2 hn
      have hl60 := h60 S[j] (List.getElem_mem hj)
      have hr0 : rdOf ByteArray.empty S[j].f3 0 = S[j].f3[0] := mS_rd S[j].f3 0 hpos3
      refine ⟨S.set j ⟨S[j].f0, S[j].f1, S[j].f2, S[j].f3 ++ [S[j].f3[0]]⟩, Ev.step (f := fun _ => some (S.set j ⟨S[j].f0, S[j].f1, S[j].f2, S[j].f3 ++ [S[j].f3[0]]⟩)) (fun k => ?_) (Ev.now _), put _ ⟨hsj.1.1, fun z hz => ?_⟩ (by simp; omega)⟩
      · show spec_DrawRecordsOf.j0 (k + 1) S true l at3 sd3 = _
        rw [spec_DrawRecordsOf.j0, if_pos rfl, e4, Option.bind_some]
        show ((spec_l1Cur_pick.f l at4 sd4 3).bind _) = _
        rw [e5, Option.bind_some]
        simp only [if_neg c0, if_neg c1, if_pos (show (0 : Int) ≤ ((j : Nat) : Int) by omega), if_pos (show ((j : Nat) : Int) < (S.length : Int) by omega), hrd, Int.toNat_natCast, if_pos (show (0 : Int) < (S[j].f3.length : Int) by omega), if_pos (show S[j].f3.length < 8796093022208 by omega), hr0]
      · rcases List.mem_append.1 hz with h | h
        · exact hsj.1.2 z h
        · rw [List.mem_singleton.1 h]; exact hsj.1.2 _ (List.getElem_mem hpos3)
 have e0 : Ev (fun k => spec_DrawRecordsOf.f k l) = Ev (fun k => (spec_l1Cur_records.f k l 0 0).bind fun bt1198 => ((spec_SetsOf.f k bt1198.1).bind fun bt1203 => (if (bt1203.1.length : Int) > 0 then ((spec_l1Cur_one.f l bt1198.2.1 bt1198.2.2 6).bind fun bt1207 => (spec_DrawRecordsOf.j0 k bt1203.1 bt1207.1 l bt1207.2.1 bt1207.2.2)) else (spec_DrawRecordsOf.j0 k bt1203.1 false l bt1198.2.1 bt1198.2.2)))) := rfl
 rw [e0]
 by_cases hpos : (S.length : Int) > 0
 · obtain ⟨x, at3, sd3, e3, hc3⟩ := one_some hl hc2 (by omega) (sd := sd2) 6
   cases hx : x with
   | false =>
    subst hx
    refine ⟨S, Ev.bind e1 (Ev.bind e2 ?_), fine S rfl hold⟩
    simp only [if_pos hpos, e3, Option.bind_some]
    exact hj0 _ _
   | true =>
    obtain ⟨t, et, ht⟩ := plain hpos x at3 sd3 (cur_up hc3 (by omega)) hx
    refine ⟨t, Ev.bind e1 (Ev.bind e2 ?_), ht⟩
    simp only [if_pos hpos, e3, Option.bind_some]
    exact et
 · refine ⟨S, Ev.bind e1 (Ev.bind e2 ?_), fine S rfl hold⟩
   simp only [if_neg hpos]
   exact hj0 _ _
def Tri (x : Int) : Prop := x = -1 ∨ x = 0 ∨ x = 1
theorem tri_P (a b : ByteArray) : Tri (cmpP a b) := by
 unfold cmpP Tri
 split
 · exact .inl rfl
 · split
   · exact .inr (.inr rfl)
   · exact .inr (.inl rfl)
theorem tri_L : ∀ a b : List ByteArray, Tri (cmpL a b)
 | [], [] => .inr (.inl rfl)
 | [], _ :: _ => .inl rfl
 | _ :: _, [] => .inr (.inr rfl)
 | a :: x, b :: y => by
  unfold cmpL
  split
  · exact tri_L x y
  · exact tri_P a b
theorem tri_B : ∀ a b : List UInt8, Tri (Lib.compareBytes a b)
 | [], [] => .inr (.inl rfl)
 | [], _ :: _ => .inl rfl
 | _ :: _, [] => .inr (.inr rfl)
 | a :: x, b :: y => by
  unfold Lib.compareBytes
  split
  · exact .inl rfl
  · split
    · exact .inr (.inr rfl)
    · exact tri_B x y
theorem tri_I (a b : Int) : Tri (cmpI a b) := by
 unfold cmpI
 split
 · exact .inl rfl
 · split
   · exact .inr (.inr rfl)
   · exact .inr (.inl rfl)
theorem tri_or {a b : Int} (ha : Tri a) (hb : Tri b) : Tri (or2 a b) := by
 unfold or2
 split
 · exact hb
 · exact ha
theorem od_min {q r : IRec} (h : od q r < 0) : od q r = -1 := by
 have : Tri (od q r) := tri_or (tri_or (tri_L _ _) (tri_I _ _)) (tri_or (tri_B _ _) (tri_I _ _))
 rcases this with h' | h' | h' <;> omega
theorem rise_app : ∀ (A : List IRec) (p : Option IRec) (B : List IRec), A ≠ [] → rise p (A ++ B) = (rise p A && rise A.getLast? B)
 | [], p, B, h => absurd rfl h
 | [a], p, B, _ => by
  show (gd a && (p.all (fun q => decide (od q a < 0)) && rise (some a) B)) = _
  simp only [rise, List.getLast?_singleton, Bool.and_true, Bool.and_assoc]
 | a :: b :: A, p, B, _ => by
  have ih := rise_app (b :: A) (some a) B (by simp)
  show (gd a && (p.all (fun q => decide (od q a < 0)) && rise (some a) ((b :: A) ++ B))) = ((gd a && (p.all (fun q => decide (od q a < 0)) && rise (some a) (b :: A))) && _)
  rw [ih, List.getLast?_cons_cons]
  simp only [Bool.and_assoc]
theorem rise_sv : ∀ (S : List SSet) (p : Option IRec), (∀ s ∈ S, s.f3 ≠ []) → rise p (S.flatMap recsOf) = true → sv p S = true
 | [], p, _, _ => rfl
 | s :: S, p, hn, h => by
  have hs := hn s (by simp)
  have hr : recsOf s ≠ [] := by
   unfold recsOf recs
   simpa using hs
  rw [List.flatMap_cons, rise_app _ _ _ hr, Bool.and_eq_true] at h
  unfold sv
  rw [h.1, rise_sv S _ (fun t ht => hn t (by simp [ht])) h.2, show (!s.f3.isEmpty) = true by simpa using hs]
  rfl
theorem strict_rise : ∀ (zs : List IRec) (p : Option IRec), Goods zs → Strict zs → (∀ q, p = some q → ∀ z ∈ zs, od q z < 0) → rise p zs = true
 | [], p, _, _, _ => rfl
 | z :: zs, p, hg, hs, hp => by
  have hs' := List.pairwise_cons.1 hs
  unfold rise
  rw [(hg z (by simp)).2, strict_rise zs (some z) (fun y hy => hg y (by simp [hy])) hs'.2 (fun q e y hy => by cases e; exact hs'.1 y hy), Bool.and_true, Bool.true_and]
  cases p with
  | none => rfl
  | some q => exact decide_eq_true (hp q rfl z (by simp))
theorem uniq_self {zs : List IRec} (hg : Goods zs) (hs : Strict zs) : uniq zs = zs := strict_one _ _ (uniq_spec hg).2.1 (uniq_spec hg).1 hs
theorem sameTx_ev (l : List ByteArray) (hl : l.length ≤ 100000) : Ev (fun k => laws_sameTexts.f k l l) true := by
 have loop : ∀ (m i : Nat), i + m = l.length → Ev (fun k => laws_sameTexts.l0 k l l (l.length : Int) (i : Int)) true := by
  intro m
  induction m with
  | zero =>
   intro i hi
   refine Ev.step (f := fun _ => some true) (fun k => ?_) (Ev.now _)
   rw [laws_sameTexts.l0, if_neg (by omega)]
  | succ m ih =>
   intro i hi
   refine Ev.step (fun k => ?_) (ih (i + 1) (by omega))
   rw [laws_sameTexts.l0, if_pos (by omega), if_pos (by omega), if_pos (by omega), if_pos (by omega), if_pos rfl, w64n (by omega)]
 exact Ev.congr (fun k => by unfold laws_sameTexts.f; rw [if_pos rfl]; rfl) (loop l.length 0 (by omega))
theorem sameSS_ev (l : List SSet) (hl : l.length ≤ 100000) (hs : ∀ s ∈ l, s.f3.length ≤ 100000) : Ev (fun k => laws_sameSets.f k l l) true := by
 have loop : ∀ (m i : Nat), i + m = l.length → Ev (fun k => laws_sameSets.l0 k l l (l.length : Int) (i : Int)) true := by
  intro m
  induction m with
  | zero =>
   intro i hi
   refine Ev.step (f := fun _ => some true) (fun k => ?_) (Ev.now _)
   rw [laws_sameSets.l0, if_neg (by omega)]
  | succ m ih =>
   intro i hi
   have hlt : i < l.length := by omega
   refine Ev.step (f := fun k => (laws_sameTexts.f k l[i].f3 l[i].f3).bind fun t1196 => laws_sameSets.j1 k l l (l.length : Int) (i : Int) (!t1196)) (fun k => ?_) (Ev.bind (sameTx_ev l[i].f3 (hs _ (List.getElem_mem hlt))) ?_)
   · rw [laws_sameSets.l0, if_pos (by omega), if_pos (by omega), if_pos (by omega), if_pos (by omega), rdSS l i hlt, if_pos rfl, if_pos rfl, if_pos rfl]
   · refine Ev.step (fun k => ?_) (ih (i + 1) (by omega))
     show laws_sameSets.j1 (k + 1) l l (l.length : Int) (i : Int) false = _
     rw [laws_sameSets.j1, if_neg (by decide), w64n (by omega)]
 exact Ev.congr (fun k => by unfold laws_sameSets.f; rw [if_pos rfl]; rfl) (loop l.length 0 (by omega))
theorem sameRR_ev (l : List IRec) (hl : l.length ≤ 1048576) : Ev (fun k => laws_sameRecords.f k l l) true := by
 have loop : ∀ (m i : Nat), i + m = l.length → Ev (fun k => laws_sameRecords.l0 k l l (l.length : Int) (i : Int)) true := by
  intro m
  induction m with
  | zero =>
   intro i hi
   refine Ev.step (f := fun _ => some true) (fun k => ?_) (Ev.now _)
   rw [laws_sameRecords.l0, if_neg (by omega)]
  | succ m ih =>
   intro i hi
   refine Ev.step (fun k => ?_) (ih (i + 1) (by omega))
   rw [laws_sameRecords.l0, if_pos (by omega), if_pos (by omega), if_pos (by omega), if_pos (by omega), if_neg (by simp), w64n (by omega)]
 exact Ev.congr (fun k => by unfold laws_sameRecords.f; rw [if_pos rfl]; rfl) (loop l.length 0 (by omega))
theorem law_j4 {b : List Int} (hb : Bytes b) : Ev (fun k => laws_FnSets.j4 k b) true := by
 obtain ⟨t, e1, ht, hs⟩ := drawRecs_some hb
 obtain ⟨r, x, e2, e3, hr⟩ := recsOf_both t ht hs
 refine Ev.step (fun k => rfl) (Ev.bind e1 (Ev.bind e3 (Ev.bind e2 ?_)))
 simp only [beq_self_eq_true, if_true]
 exact Ev.bind (sameRR_ev r hr) (Ev.now _)
theorem search_ev (b : List Int) (l zs : List IRec) (x14 x84 x85 : Int) (r : IRec) (hl : l.length ≤ 100000) (g : Nat → Option Bool) (R : Bool) (hg : Ev g R)
 (hend : ∀ k, laws_FnSets.l1 (k + 1) b l zs x14 true zs x84 x85 l (l.length : Int) (l.length : Int) r.f0 r.f1 r.f2 r.f3 = g k) : ∀ (m i : Nat) (x : Bool), i + m = l.length → (x = true ∨ r ∈ l.drop i) →
 Ev (fun k => laws_FnSets.l1 k b l zs x14 x zs x84 x85 l (l.length : Int) (i : Int) r.f0 r.f1 r.f2 r.f3) R
 | 0, i, x, hi, hx => by
  have hi : i = l.length := by omega
  subst hi
  have : x = true := by
   rcases hx with h | h
   · exact h
   · rw [List.drop_of_length_le (Nat.le_refl _)] at h; cases h
  subst this
  exact Ev.step hend hg
 | m + 1, i, x, hi, hx => by
  have hlt : i < l.length := by omega
  cases x with
  | true =>
   refine Ev.step (fun k => ?_) (search_ev b l zs x14 x84 x85 r hl g R hg hend m (i + 1) true (by omega) (.inl rfl))
   rw [laws_FnSets.l1, if_pos (by omega), if_pos (by omega), if_pos (by omega), if_pos rfl, w64n (by omega)]
  | false =>
   have hx : r ∈ l.drop i := by
    rcases hx with h | h
    · cases h
    · exact h
   rw [List.drop_eq_getElem_cons hlt] at hx
   have e0 : ∀ k, laws_FnSets.l1 (k + 1) b l zs x14 false zs x84 x85 l (l.length : Int) (i : Int) r.f0 r.f1 r.f2 r.f3 = laws_FnSets.l1 k b l zs x14 ((l[i].f0.toList == r.f0.toList) && ((l[i].f1 == r.f1) && ((l[i].f2 == r.f2) && (l[i].f3.toList == r.f3.toList)))) zs x84 x85 l (l.length : Int) ((i + 1 : Nat) : Int) r.f0 r.f1 r.f2 r.f3 := fun k => by
    rw [laws_FnSets.l1, if_pos (by omega), if_pos (by omega), if_pos (by omega), if_neg (by decide), rdI l i hlt, w64n (by omega)]
   refine Ev.step e0 (search_ev b l zs x14 x84 x85 r hl g R hg hend m (i + 1) _ (by omega) ?_)
   rcases List.mem_cons.1 hx with h | h
   · exact .inl ((rec_eq l[i] r.f0 r.f1 r.f2 r.f3).2 h.symm)
   · exact .inr h
theorem comp_ev {q r : IRec} (hq : SmR q ∧ gd q = true) (hr : SmR r ∧ gd r = true) (h : od q r < 0) : Ev (fun k => impl_CompareRecords.f k q.f0 q.f1 q.f2 q.f3 r.f0 r.f1 r.f2 r.f3) (-1, true) := by
 have g1 := (gd_ev q hq.1).1
 have g2 := (gd_ev r hr.1).1
 rw [hq.2] at g1
 rw [hr.2] at g2
 have e := (od_ev hq.1 hr.1 hq.2 hr.2).1
 rw [od_min h] at e
 exact Ev.congr (fun k => rfl) (Ev.bind g1 (Ev.bind g2 (Ev.bind e (Ev.now _))))
theorem law_l0 {b : List Int} (hb : Bytes b) (l zs : List IRec) (hl : l.length ≤ 100000) (hz : zs.length ≤ 100000) (hg : Goods zs) (hs : Strict zs) (hin : ∀ z ∈ zs, z ∈ l) : ∀ (m i : Nat), i + m = zs.length → Ev (fun k => laws_FnSets.l0 k b l zs zs (zs.length : Int) (i : Int)) true
 | 0, i, hi => by
  refine Ev.step (fun k => ?_) (law_j4 hb)
  rw [laws_FnSets.l0, if_neg (by omega)]
 | m + 1, i, hi => by
  have hlt : i < zs.length := by omega
  have ih := law_l0 hb l zs hl hz hg hs hin m (i + 1) (by omega)
  have e0 : ∀ k, laws_FnSets.l0 (k + 1) b l zs zs (zs.length : Int) (i : Int) = laws_FnSets.l1 k b l zs (i : Int) false zs (zs.length : Int) (i : Int) l (l.length : Int) ((0 : Nat) : Int) zs[i].f0 zs[i].f1 zs[i].f2 zs[i].f3 := fun k => by
   rw [laws_FnSets.l0, if_pos (by omega), if_pos (by omega), if_pos (by omega), rdI zs i hlt]
   rfl
  refine Ev.step e0 ?_
  have hmem : zs[i] ∈ l.drop 0 := by rw [List.drop_zero]; exact hin _ (List.getElem_mem hlt)
  by_cases hi0 : i = 0
  · refine search_ev b l zs (i : Int) (zs.length : Int) (i : Int) zs[i] hl (fun k => laws_FnSets.l0 k b l zs zs (zs.length : Int) ((i + 1 : Nat) : Int)) true ih (fun k => ?_) l.length 0 false (by omega) (.inr hmem)
    rw [laws_FnSets.l1, if_neg (by omega), if_pos rfl, if_neg (by omega), w64n (by omega)]
  · have hi1 : i - 1 < zs.length := by omega
    have hod : od zs[i - 1] zs[i] < 0 := List.pairwise_iff_getElem.1 hs (i - 1) i hi1 hlt (by omega)
    have hc : Ev (fun k => (impl_CompareRecords.f k zs[i - 1].f0 zs[i - 1].f1 zs[i - 1].f2 zs[i - 1].f3 zs[i].f0 zs[i].f1 zs[i].f2 zs[i].f3).bind fun bt1256 => (if bt1256.2 = true then (if bt1256.1 = (-1) then (laws_FnSets.l0 k b l zs zs (zs.length : Int) ((i + 1 : Nat) : Int)) else (some false)) else (some false))) true := by
     refine Ev.bind (comp_ev (hg _ (List.getElem_mem hi1)) (hg _ (List.getElem_mem hlt)) hod) ?_
     show Ev (fun k => if (true : Bool) = true then (if (-1 : Int) = (-1) then (laws_FnSets.l0 k b l zs zs (zs.length : Int) ((i + 1 : Nat) : Int)) else (some false)) else (some false)) true
     simp only [if_true]
     exact ih
    refine search_ev b l zs (i : Int) (zs.length : Int) (i : Int) zs[i] hl (fun k => (impl_CompareRecords.f k zs[i - 1].f0 zs[i - 1].f1 zs[i - 1].f2 zs[i - 1].f3 zs[i].f0 zs[i].f1 zs[i].f2 zs[i].f3).bind fun bt1256 => (if bt1256.2 = true then (if bt1256.1 = (-1) then (laws_FnSets.l0 k b l zs zs (zs.length : Int) ((i + 1 : Nat) : Int)) else (some false)) else (some false))) true hc (fun k => ?_) l.length 0 false (by omega) (.inr hmem)
    rw [laws_FnSets.l1, if_neg (by omega), if_pos rfl, if_pos (by omega), w64p (by omega) (by omega), if_pos (by omega), if_pos (by omega), rdI zs (i - 1) hi1, w64n (by omega)]
theorem FnSets : laws_FnSets.Pure := by
 intro a b ha1 ha2 ha3 hb1 hb2 hb3
 have hA := bytes_of ha3
 have hB := bytes_of hb3
 suffices h : Ev (fun k => laws_FnSets.f k a b) true from h.rounds
 by_cases hbig : wrap64 ((a.length : Int) + (b.length : Int)) > 1048576
 · exact Ev.congr (fun k => by unfold laws_FnSets.f; rw [if_pos hbig]) (Ev.now _)
 · obtain ⟨l, at2, sd2, e1, hlen, hs, hc2⟩ := records_some hA (at_ := 0) (sd := 0) (n := 0) ⟨by omega, by omega⟩ (by omega)
   have e1' : Ev (fun k => spec_DrawSetsOf.f k a) l := Ev.congr (fun k => rfl) (Ev.bind e1 (Ev.now _))
   obtain ⟨⟨S, x⟩, hSx⟩ : ∃ p, p = setsV l := ⟨_, rfl⟩
   have e2 := implSO_ev l hs
   have e3 := specSO_ev l (by omega) hs
   rw [← hSx] at e2 e3
   refine Ev.congr (fun k => by unfold laws_FnSets.f; rw [if_neg hbig]) (Ev.bind e1' (Ev.bind e2 (Ev.bind e3 ?_)))
   simp only [bne_self_eq_false, Bool.false_eq_true, if_false]
   cases x with
   | false =>
    obtain rfl := setsV_false hSx.symm
    refine Ev.bind (sameSS_ev [] (by simp) (fun s h => (List.not_mem_nil h).elim)) ?_
    refine Ev.step (fun k => ?_) (law_j4 hB)
    show laws_FnSets.j0 (k + 1) b l [] false false = _
    rw [laws_FnSets.j0, if_neg (by decide), if_neg (by decide)]
   | true =>
    obtain ⟨h60, hg, hf, h40⟩ := setsV_true hSx.symm
    obtain ⟨hfl, hne, hsm, hf3⟩ := sets_small hs hSx.symm
    have hG := goods_all hs hg
    obtain ⟨u1, u2, u3⟩ := uniq_spec hG
    have hzG : Goods (uniq l) := fun z hz => hG z ((u2 z).1 hz)
    have hz60 : (uniq l).length ≤ 60 := by omega
    have hsame := sameSS_ev S (by omega) (fun s h => by have := hf3 s h; omega)
    refine Ev.bind hsame ?_
    have hrs : rise none (S.flatMap recsOf) = true := by rw [hfl]; exact strict_rise _ none hzG u1 (fun q e => by cases e)
    have hsv := rise_sv S none hne hrs
    have hfin : fin S (S.flatMap recsOf) = true := by
     unfold fin
     rw [hfl, hf]
     show (decide ((S.length : Int) ≤ 40) && (decide ((uniq l).length ≤ 60) && decide (S.length = S.length))) = true
     rw [decide_eq_true (show (S.length : Int) ≤ 40 by omega), decide_eq_true hz60, decide_eq_true rfl]
     rfl
    have hcnt : cntS S ≤ 60 := by rw [← flat_len, hfl]; exact hz60
    have e4 := implRO_ev S (by omega) hsm
    rw [tests_one, hsv, hfin, hfl] at e4
    have e5 := implSO_ev (uniq l) (fun z hz => (hzG z hz).1)
    have e5v : setsV (uniq l) = (S, true) := by
     unfold setsV
     rw [if_pos ⟨hz60, List.all_eq_true.2 (fun z hz => (hzG z hz).2)⟩, uniq_self hzG u1, hf]
     show (if (S.length : Int) > 40 then badS else (S, true)) = _
     rw [if_neg (by omega)]
    rw [e5v] at e5
    have hj1 : Ev (fun k => laws_FnSets.j1 k b l (uniq l) (decide (((uniq l).length : Int) > (l.length : Int)))) true := by
     rw [decide_eq_false (by omega)]
     refine Ev.step (fun k => ?_) (law_l0 hB l (uniq l) (by omega) (by omega) hzG u1 (fun z hz => (u2 z).1 hz) (uniq l).length 0 (by omega))
     rw [laws_FnSets.j1, if_neg (by decide)]
     rfl
    have e0 : ∀ k, laws_FnSets.j0 (k + 1) b l S true false = ((impl_RecordsOf.f k S).bind fun bt1242 => ((impl_SetsOf.f k bt1242.1).bind fun bt1246 => (if bt1242.2 = true then (if bt1246.2 = true then ((laws_sameSets.f k bt1246.1 S).bind fun t1250 => (if t1250 = true then (laws_FnSets.j1 k b l bt1242.1 (decide ((bt1242.1.length : Int) > (l.length : Int)))) else (laws_FnSets.j1 k b l bt1242.1 true))) else (laws_FnSets.j1 k b l bt1242.1 true)) else (laws_FnSets.j1 k b l bt1242.1 true)))) := fun k => by
     rw [laws_FnSets.j0, if_neg (by decide), if_pos rfl]
    show Ev (fun k => laws_FnSets.j0 k b l S true false) true
    refine Ev.step e0 (Ev.bind e4 ?_)
    refine Ev.bind (g := fun k => impl_SetsOf.f k (uniq l)) e5 ?_
    show Ev (fun k => (laws_sameSets.f k S S).bind fun t1250 => (if t1250 = true then (laws_FnSets.j1 k b l (uniq l) (decide (((uniq l).length : Int) > (l.length : Int)))) else (laws_FnSets.j1 k b l (uniq l) true))) true
    exact Ev.bind hsame hj1
end Go.Proofs.YtiegkjimpclmaaaGreatDoor.Pure
