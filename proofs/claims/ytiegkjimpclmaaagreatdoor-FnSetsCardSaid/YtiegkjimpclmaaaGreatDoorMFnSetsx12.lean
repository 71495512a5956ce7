/- FnSets: part 13 of 15 of my texts for this claim, joined; the theorem stands in the last. Conditions: none beyond the statement's. -/
import Derived.Test.YtiegkjimpclmaaaGreatDoorMFnSetsx11
open Go.RowKit Go.Proofs.YtiegkjimpclmaaaGreatDoorW.PrintWords Go.Proofs.YtiegkjimpclmaaaGreatDoorW.PrintLast Go.Proofs.YtiegkjimpclmaaaGreatDoorW.PrintMore
set_option linter.unusedVariables false
set_option linter.unusedSimpArgs false
set_option maxHeartbeats 8000000
set_option maxRecDepth 100000
namespace Go.Proofs.YtiegkjimpclmaaaGreatDoor.P
attribute [local go_sem] max2_int min2_int max_two min_two max_three min_three max_four min_four
mutual
noncomputable def impl_SetsOf.j0 : Nat → List (S45) → Bool → Option ((List (S83)) × Bool)
 | 0, _, _ => none
 | k + 1, x0, x15 => if x15 = true then (some (([] : List (S83)), false)) else ((slices_SortedFunc_rec.f x0).bind fun t543 => (impl_SetsOf.l0 k (([] : List (S83))) t543 (t543.length : Int) 0))
noncomputable def impl_SetsOf.l0 : Nat → List (S83) → List (S45) → Int → Int → Option ((List (S83)) × Bool)
 | 0, _, _, _, _ => none
 | k + 1, x4, x19, x20, x21 => if x21 < x20 then (if 0 ≤ x21 then (if x21 < (x19.length : Int) then (if (wrap64 ((x4.length : Int) - 1)) < 0 then (impl_SetsOf.j2 k x4 (wrap64 ((x4.length : Int) - 1)) x19 x20 x21 true ((rd_T45 x19 x21).f0) ((rd_T45 x19 x21).f1) ((rd_T45 x19 x21).f2) ((rd_T45 x19 x21).f3)) else (if 0 ≤ (wrap64 ((x4.length : Int) - 1)) then (if (wrap64 ((x4.length : Int) - 1)) < (x4.length : Int) then (if ((rd_T83 x4 (wrap64 ((x4.length : Int) - 1))).f0).toList = ((rd_T45 x19 x21).f0).toList then (impl_SetsOf.j2 k x4 (wrap64 ((x4.length : Int) - 1)) x19 x20 x21 (((rd_T83 x4 (wrap64 ((x4.length : Int) - 1))).f1) != ((rd_T45 x19 x21).f1)) ((rd_T45 x19 x21).f0) ((rd_T45 x19 x21).f1) ((rd_T45 x19 x21).f2) ((rd_T45 x19 x21).f3)) else (impl_SetsOf.j2 k x4 (wrap64 ((x4.length : Int) - 1)) x19 x20 x21 true ((rd_T45 x19 x21).f0) ((rd_T45 x19 x21).f1) ((rd_T45 x19 x21).f2) ((rd_T45 x19 x21).f3))) else (none)) else (none))) else (none)) else (none)) else (if (x4.length : Int) > 40 then (some (([] : List (S83)), false)) else (some (x4, true)))
noncomputable def impl_SetsOf.j2 : Nat → List (S83) → Int → List (S45) → Int → Int → Bool → ByteArray → Int → Int → ByteArray → Option ((List (S83)) × Bool)
 | 0, _, _, _, _, _, _, _, _, _, _ => none
 | k + 1, x4, x7, x19, x20, x21, x49, x548000, x548001, x548002, x548003 => if x49 = true then (if x4.length < 2513169434916 then (impl_SetsOf.l0 k (x4 ++ [(⟨x548000, x548001, x548002, (([x548003] : List ByteArray))⟩ : S83)]) x19 x20 (wrap64 (x21 + 1))) else (none)) else (if 0 ≤ x7 then (if x7 < (x4.length : Int) then (if ((rd_T83 x4 x7).f2) = x548002 then ((slices_Contains_string_string.f k ((rd_T83 x4 x7).f3) x548003).bind fun t558 => (if t558 = true then (impl_SetsOf.l0 k x4 x19 x20 (wrap64 (x21 + 1))) else (if ((rd_T83 x4 x7).f3).length < 8796093022208 then (impl_SetsOf.l0 k (x4.set (x7 : Int).toNat (⟨(rd_T83 x4 x7).f0, (rd_T83 x4 x7).f1, (rd_T83 x4 x7).f2, (((rd_T83 x4 x7).f3) ++ [x548003])⟩ : S83)) x19 x20 (wrap64 (x21 + 1))) else (none)))) else (some (([] : List (S83)), false))) else (none)) else (none))
end
noncomputable def impl_SetsOf.f (k : Nat) (l0 : List (S45)) : Option ((List (S83)) × Bool) := if (l0.length : Int) > 60 then (impl_SetsOf.j0 k l0 true) else ((impl_areRecords.f k l0).bind fun t539 => (impl_SetsOf.j0 k l0 (!t539)))
def impl_SetsOf.T8 : Bool × List (List Nat × List Nat) := (true, [([], []), ([0], [0]), ([1], [1]), ([2], [2]), ([2], [2]), ([3, 4, 2], [2, 3, 4]), ([5, 2], [2, 5]), ([6, 2], [2, 6]), ([2], [2]), ([8, 2], [2, 8]), ([7, 9, 2], [2, 7, 9]), ([2, 10], [2, 10]), ([11, 2], [11]), ([12], [12]), ([12], [12]), ([13, 14, 12], [12, 13, 14]), ([15, 12], [12, 15]), ([16, 12], [12, 16]), ([12], [12]), ([18, 12], [12, 18]), ([17, 19, 12], [12, 17, 19]), ([12, 20], [12, 20])])
def impl_SetsOf.B8 : List Nat := [0, 1, 3, 7, 7, 31, 63, 127, 7, 263, 1023, 2047, 4095, 8191, 8191, 32767, 65535, 131071, 8191, 270335, 1048575, 2097151]
theorem impl_SetsOf.tab8 : rtab .any (opsOf Tryz.f24 8) = impl_SetsOf.T8 := by kernel_rfl
theorem impl_SetsOf.bits8 : waitsOk impl_SetsOf.T8.2 impl_SetsOf.B8 = true := by kernel_rfl
def impl_SetsOf.T10 : Bool × List (List Nat × List Nat) := (true, [([], []), ([], []), ([0, 1], [0, 1]), ([2], [2]), ([3], [3]), ([], []), ([5], [5]), ([4, 6], [4, 6])])
def impl_SetsOf.B10 : List Nat := [0, 0, 3, 7, 15, 0, 32, 127]
theorem impl_SetsOf.tab10 : rtab .any (opsOf Tryz.f24 10) = impl_SetsOf.T10 := by kernel_rfl
theorem impl_SetsOf.bits10 : waitsOk impl_SetsOf.T10.2 impl_SetsOf.B10 = true := by kernel_rfl
def impl_SetsOf.T12 : Bool × List (List Nat × List Nat) := (true, [([], []), ([], []), ([0, 1], [0, 1]), ([2], [2]), ([3], [3]), ([], []), ([5], [5]), ([4, 6], [4, 6]), ([7], [7])])
def impl_SetsOf.B12 : List Nat := [0, 0, 3, 7, 15, 0, 32, 127, 255]
theorem impl_SetsOf.tab12 : rtab .any (opsOf Tryz.f24 12) = impl_SetsOf.T12 := by kernel_rfl
theorem impl_SetsOf.bits12 : waitsOk impl_SetsOf.T12.2 impl_SetsOf.B12 = true := by kernel_rfl
def impl_SetsOf.T13 : Bool × List (List Nat × List Nat) := (true, [([], []), ([], []), ([], []), ([], []), ([2, 3], [2, 3]), ([4], [4]), ([5], [5]), ([], []), ([7], [7]), ([8], [8]), ([6, 9], [6, 9]), ([0, 1, 0, 1, 2, 3, 4, 5, 6, 7, 8, 9, 10], [0, 1]), ([11, 0, 1, 2, 3, 4, 5, 6, 7, 8, 9, 10], [11]), ([12, 10, 10, 0, 1, 2, 3, 4, 5, 6, 7, 8, 9, 10], [10, 12])])
def impl_SetsOf.B13 : List Nat := [0, 0, 0, 0, 12, 28, 60, 0, 128, 384, 1020, 2047, 4095, 8191]
theorem impl_SetsOf.tab13 : rtab .any (opsOf Tryz.f24 13) = impl_SetsOf.T13 := by kernel_rfl
theorem impl_SetsOf.bits13 : waitsOk impl_SetsOf.T13.2 impl_SetsOf.B13 = true := by kernel_rfl
theorem impl_SetsOf.calls (k : Nat) (A0 : Option Addr) (c0 : Nat) (l0 : List (S45)) (r1 : List (S83)) (r2 : Bool) (w : World) (hr0 : Kd.C k45 w A0 l0.length l0) (hc0 : l0.length ≤ c0) (h : impl_SetsOf.f k l0 = some (r1, r2)) (hv_ : Vars w := by exact vv_) :
 Calls Tryz.prog 24 #[.slice A0 l0.length c0] w fun e w' => ∃ v0_ : Value, e = .returned (.tuple #[v0_, .bool r2]) ∧ Kd.S k83 83 w' w.heap.size (fun _ => True) v0_ r1 ∧ Below w.heap.size w w' := by
 have HV_ := a0_ hv_
 clear hv_
 have hu45 := Tryz.underlying45
 have hu83 := Tryz.underlying83
 have HR0 := a0_ hr0
 have HC0 := a0_ hc0
 clear hr0 hc0
 have HB := a0_ (Below.refl w.heap.size w)
 have H : (if (l0.length : Int) > 60 then (impl_SetsOf.j0 k l0 true) else ((impl_areRecords.f k l0).bind fun t539 => (impl_SetsOf.j0 k l0 (!t539)))) = some (r1, r2) := h
 clear h
 have HC2 := a0_ H
 clear H
 go_enter Tryz.func24, Tryz.ntmps24
 go_upto_region 1 with (fail)
 go_cut [15] (fun v15 wc => ∃ (kq : Nat) (x15_1 : Bool), v15 = .bool x15_1 ∧ Aside0 (impl_SetsOf.j0 kq l0 x15_1 = some (r1, r2)) ∧ Aside0 (kq ≤ k) ∧ Aside0 (Below w.heap.size w wc))
 case first =>
  have H := HC2.out
  clear HC2
  by_cases c3 : (l0.length : Int) > 60
  case pos =>
   rw [if_pos c3] at H
   have c3b0 := decide_eq_true c3
   have c3b1 : decide (60 < l0.length) = true := decide_eq_true (by omega)
   clear c3
   (first | rw [c3b0] | (simp only [i64_w, i32_w]; rw [c3b0]) | skip)
   have H' := a0_ H
   clear H
   go_wp2
   (try rw [← hji22]); (try rw [← hji37]); skip
   go_meet
   case rel => exact ⟨_, (true), rs_, (by first | exact H' | (rw [hji22]; exact H') | (rw [hji37]; exact H')), ⟨by first | omega | exact Nat.le_refl _⟩, ⟨bq0_⟩⟩
  rw [if_neg c3] at H
  have c3b0 := decide_eq_false c3
  have c3b1 : decide (60 < l0.length) = false := decide_eq_false (by omega)
  clear c3
  (first | rw [c3b0] | (simp only [i64_w, i32_w]; rw [c3b0]) | skip)
  obtain ⟨t539, A4, H⟩ := ob_ H
  have H' := a0_ H
  clear H
  go_wp2_with (first | (go_at_call 74; (with_reducible refine (impl_areRecords.calls k _ _ l0 t539 _ ?side1 ?side2 A4.out).mono ?_); (case side1 => exact kC_ HR0.out HB.out); (case side2 => exact HC0.out); rintro e w5 ⟨rfl, hb⟩; replace HB := a0_ (below_step bq0_ hb); clear hb))
  (try rw [← hji22]); (try rw [← hji37]); skip
  go_meet
  case rel => exact ⟨_, (!t539), rs_, (by first | exact H' | (rw [hji22]; exact H') | (rw [hji37]; exact H')), ⟨by first | omega | exact Nat.le_refl _⟩, ⟨bq0_⟩⟩
 case rest =>
  clear HC2
  obtain ⟨kq, x15_1, rfl, HA, HJ1, HB⟩ := hcut
  cases kq with
  | zero => exact absurd HA.out (by simp [impl_SetsOf.j0])
  | succ kj1 =>
   have H := HA.out
   clear HA
   simp only [impl_SetsOf.j0] at H
   by_cases c6 : x15_1 = true
   case pos =>
    subst c6
    rw [if_pos rfl] at H
    simp only [Option.some.injEq, Prod.mk.injEq] at H
    obtain ⟨rfl, rfl⟩ := H
    go_wp2
    go_ret2
    exact ⟨_, rr_, by first | exact Kd.S_nil _ _ _ _ _ | exact Kd.N_nil _ _ _ _ _ | exact Kd.V_nil _ _ _ _ _ | exact Kd.Q_nil _ _ _ _ _ | exact Kd.R_nil _ _ _ _ _, bq0_⟩
   replace c6 := Bool.eq_false_iff.mpr c6
   subst c6
   rw [if_neg ff_] at H
   obtain ⟨y540, hy540⟩ : ∃ y_ : List (S83), y_ = (([] : List (S83))) := ⟨_, rfl⟩
   replace H : ((slices_SortedFunc_rec.f l0).bind fun t543 => (impl_SetsOf.l0 kj1 y540 t543 (t543.length : Int) 0)) = some (r1, r2) := by first | (rw [hy540]; with_reducible exact H) | (have H2_ := (Option.bind_some _ _).symm.trans H; rw [hy540]; with_reducible exact H2_) | (have H2_ := (Option.bind_some _ _).symm.trans H; with_reducible exact H2_) | with_reducible exact H | (rw [hy540]; exact H) | exact H
   have Ny540 := a0_ hy540
   clear hy540
   obtain ⟨t543, A7, H⟩ := ob_ H
   have H' := a0_ H
   clear H
   go_wp2_with (first | ((with_reducible refine gate_dst (N := 16) rfl ?_); refine Kd.S_lit k83 _ 83 ?hg (N := 16) ?hd (xs := ([] : List (S83))) (inner := []) (ok := fun _ => True) (okp := fun _ => True) ?hr ?hp (fun _ hk => hk) trivial (Below.refl _ _) (Nat.le_refl _) (by simp) ?_; (case hd => rfl); (case hg => rfl); (case hr => first | (go_simp; done) | (go_simp; rfl)); (case hp => exact (Reps.none _ _)); intro v541 w8 ho9 hb hg_ hnew_; clear hg_ hnew_; (first | rw [← Ny540.out] at ho9 | (simp only [Int.reduceToNat] at ho9; rw [← Ny540.out] at ho9)); have HO542 := a0_ (Kd.S_lower ho9 (below_size bq0_)); replace HB := a0_ (below_step bq0_ hb); clear hb ho9) | (go_at_call 76; refine (values_calls A0 l0.length c0 _).mono ?_; rintro e w9_ ⟨rfl, rfl⟩) | (go_at_call 75; (refine (slices_SortedFunc_rec.calls A0 c0 l0 t543 _ ?side1 ?side2 A7.out).mono ?_); (case side1 => exact kC_ HR0.out HB.out); (case side2 => exact HC0.out); rintro e w10 ⟨v544, rfl, ho0, hb⟩; replace HO542 := a0_ (Kd.S_below (by (with_reducible repeat (first | apply Kd.S_alloc | apply Kd.S_drewN | apply Kd.S_drew)); exact HO542.out) hb); have HO545 := a0_ (Kd.R_lower ho0 (below_size bq0_)); replace HB := a0_ (below_step bq0_ hb); clear hb; (try clear ho0); obtain ⟨Ao11, co11, eo11⟩ := Kd.R_slice HO545.out; subst eo11))
   go_loopg [4, 21] kj1 (fun kq v4 v21 w' => ∃ (x4_2 : List (S83)) (x21_2 : Int), v21 = .int .i64 x21_2 ∧ Aside0 (impl_SetsOf.l0 kq x4_2 t543 (t543.length : Int) x21_2 = some (r1, r2)) ∧ Aside0 (kq ≤ kj1) ∧ Aside0 (Kd.S k83 83 w' w.heap.size (fun _ => True) v4 x4_2) ∧ Aside0 (Kd.R k45 45 w' w.heap.size (fun _ => True) (.slice Ao11 t543.length co11) t543) ∧ Aside0 (Below w.heap.size w w'))
   case atStart => exact ⟨(y540), (0), rs_, H', ⟨Nat.le_refl _⟩, ⟨kS_ HO542.out⟩, ⟨kR_ HO545.out⟩, ⟨bq0_⟩⟩
   case round =>
    clear H'
    try clear c2
    try clear p2
    try clear c3
    try clear c3b0
    try clear c3b1
    try clear c6
    try clear p2
    obtain ⟨x4_2, x21_2, rfl, HA, HK2, HO_4, HO_19, HB⟩ := hrel
    cases gk with
    | zero => exact absurd HA.out (by simp [impl_SetsOf.l0])
    | succ k2 =>
     have H := HA.out
     clear HA
     simp only [impl_SetsOf.l0] at H
     by_cases c12 : x21_2 < (t543.length : Int)
     case neg =>
      rw [if_neg c12] at H
      have c12b0 := decide_eq_false c12
      clear c12
      by_cases c56 : (x4_2.length : Int) > 40
      case neg =>
       rw [if_neg c56] at H
       have c56b0 := decide_eq_false c56
       have c56b1 : decide (40 < x4_2.length) = false := decide_eq_false (by omega)
       clear c56
       simp only [Option.some.injEq, Prod.mk.injEq] at H
       obtain ⟨rfl, rfl⟩ := H
       obtain ⟨Ao58, co58, eo58⟩ := Kd.S_slice HO_4.out
       subst eo58
       go_wp2
       go_ret2
       exact ⟨_, rr_, kS_ HO_4.out, bq0_⟩
      rw [if_pos c56] at H
      have c56b0 := decide_eq_true c56
      have c56b1 : decide (40 < x4_2.length) = true := decide_eq_true (by omega)
      clear c56
      simp only [Option.some.injEq, Prod.mk.injEq] at H
      obtain ⟨rfl, rfl⟩ := H
      obtain ⟨Ao57, co57, eo57⟩ := Kd.S_slice HO_4.out
      subst eo57
      go_wp2
      go_ret2
      exact ⟨_, rr_, by first | exact Kd.S_nil _ _ _ _ _ | exact Kd.N_nil _ _ _ _ _ | exact Kd.V_nil _ _ _ _ _ | exact Kd.Q_nil _ _ _ _ _ | exact Kd.R_nil _ _ _ _ _, bq0_⟩
     rw [if_pos c12] at H
     have c12b0 := decide_eq_true c12
     clear c12
     by_cases c13 : 0 ≤ x21_2
     case neg =>
      rw [if_neg c13] at H
      exact absurd H (by simp)
     rw [if_pos c13] at H
     have c13b0 := decide_eq_true c13
     clear c13
     by_cases c14 : x21_2 < (t543.length : Int)
     case neg =>
      rw [if_neg c14] at H
      exact absurd H (by simp)
     rw [if_pos c14] at H
     have c14b0 := decide_eq_true c14
     clear c14
     have HC15 := a0_ H
     clear H
     have p546 := t0_ (x21_2)
     have q546 := tl_ (x21_2) (t543.length)
     obtain ⟨ad546, e546, hx546_0, hx546_1, hx546_2, hx546_3⟩ := at_T45 (Kd.R_reads' HO_19.out).2.2 x21_2 (of_eq_true p546) (of_eq_true q546)
     cases e546
     go_upto_region 8 with (first | ((with_reducible refine gate_dst (N := 6) rfl ?_); refine boxS_ 6 #[.string (⟨#[]⟩ : ByteArray), .int .i64 0, .int .i64 0, .string (⟨#[]⟩ : ByteArray)] 45 (fun gb547 hg w16 hbox hb => ?_); replace HO_4 := a0_ (Kd.S_below (by (with_reducible repeat (first | apply Kd.S_alloc | apply Kd.S_drewN | apply Kd.S_drew)); exact HO_4.out) hb); replace HO_19 := a0_ (Kd.R_below (Kd.R_elderB (kR_ HO_19.out) gb547 (Nat.le_of_eq hg.symm)) hb); have BK547 := a0_ (hbox); have GW547 := a0_ (gw_ hg : w.heap.size ≤ gb547); replace HB := a0_ (below_step bq0_ hb); have GE547 := GW547; clear hb hbox hg; obtain ⟨_, _, _, _, _, _, _, _⟩ := bk4_ BK547.out; obtain ⟨Ao18, co18, eo18⟩ := Kd.S_slice HO_4.out; subst eo18))
     (try simp only [Act.put, List.setIfInBounds_toArray, List.set_cons_zero, List.set_cons_succ])
     go_cut [49] (fun v49 wc => ∃ (kq : Nat) (x49_14 : Bool), v49 = .bool x49_14 ∧ Aside0 (impl_SetsOf.j2 kq x4_2 (wrap64 ((x4_2.length : Int) - 1)) t543 (t543.length : Int) x21_2 x49_14 ((rd_T45 t543 x21_2).f0) ((rd_T45 t543 x21_2).f1) ((rd_T45 t543 x21_2).f2) ((rd_T45 t543 x21_2).f3) = some (r1, r2)) ∧ Aside0 (kq ≤ k2) ∧ Aside0 (Kd.S k83 83 wc w.heap.size (fun _ => True) (.slice Ao18 x4_2.length co18) x4_2) ∧ Aside0 (Kd.R k45 45 wc w.heap.size (fun k_ => k_ ≠ gb547) (.slice (some ad546) t543.length co11) t543) ∧ Aside0 (wc.heap[gb547]? = some (.cells #[.string ((rd_T45 t543 x21_2).f0), .int .i64 ((rd_T45 t543 x21_2).f1), .int .i64 ((rd_T45 t543 x21_2).f2), .string ((rd_T45 t543 x21_2).f3)] 45 (0, 0))) ∧ Aside0 (Below w.heap.size w wc))
     case first =>
      have H := HC15.out
      clear HC15
      by_cases c19 : (wrap64 ((x4_2.length : Int) - 1)) < 0
      case pos =>
       rw [if_pos c19] at H
       have c19b0 := decide_eq_true c19
       clear c19
       (first | rw [c19b0] | (simp only [i64_w, i32_w]; rw [c19b0]) | skip)
       have H' := a0_ H
       clear H
       try go_wp2
       generalize hE_ : ((((w16.setCell ⟨gb547, 0, none⟩ (.string ((rd_T45 t543 x21_2).f0))).setCell ⟨gb547, 1, none⟩ (.int .i64 ((rd_T45 t543 x21_2).f1))).setCell ⟨gb547, 2, none⟩ (.int .i64 ((rd_T45 t543 x21_2).f2))).setCell ⟨gb547, 3, none⟩ (.string ((rd_T45 t543 x21_2).f3))) = w20
       have n0_ : Aside0 (Kd.S k83 83 w20 w.heap.size (fun _ => True) (.slice Ao18 x4_2.length co18) x4_2) := ⟨by rw [← hE_]; exact kS_ (Kd.S_mono (sf4_ gb547 (Kd.S_types HO_4.out BK547.out (by decide)) (fun _ hk => hk.2) (.string ((rd_T45 t543 x21_2).f0)) (.int .i64 ((rd_T45 t543 x21_2).f1)) (.int .i64 ((rd_T45 t543 x21_2).f2)) (.string ((rd_T45 t543 x21_2).f3))) (fun _ hk => trivial))⟩
       have n1_ : Aside0 (Kd.R k45 45 w20 w.heap.size (fun k_ => k_ ≠ gb547) (.slice (some ad546) t543.length co11) t543) := ⟨by rw [← hE_]; exact kR_ (Kd.R_mono (rf4_ gb547 (Kd.R_mono HO_19.out (fun k_ hk => (⟨hk, hk.2⟩ : _ ∧ k_ ≠ gb547))) (fun _ hk => hk.2) (.string ((rd_T45 t543 x21_2).f0)) (.int .i64 ((rd_T45 t543 x21_2).f1)) (.int .i64 ((rd_T45 t543 x21_2).f2)) (.string ((rd_T45 t543 x21_2).f3))) (fun _ hk => hk.1.2))⟩
       have n2_ : Aside0 (w20.heap[gb547]? = some (.cells #[.string ((rd_T45 t543 x21_2).f0), .int .i64 ((rd_T45 t543 x21_2).f1), .int .i64 ((rd_T45 t543 x21_2).f2), .string ((rd_T45 t543 x21_2).f3)] 45 (0, 0))) := ⟨by rw [← hE_]; exact put4_ BK547.out⟩
       have n3_ : Aside0 (Below w.heap.size w w20) := ⟨by rw [← hE_]; exact bq1_⟩
       (try clear HO_4)
       (try clear HO_19)
       (try clear BK547)
       (try clear HB)
       clear hE_
       have HO_4 := n0_
       have HO_19 := n1_
       have BK547 := n2_
       have HB := n3_
       clear n0_ n1_ n2_ n3_
       replace HO_4 := a0_ (Kd.S_drew HO_4.out)
       replace HO_19 := a0_ (Kd.R_drew HO_19.out)
       replace BK547 := a0_ (blk_drew BK547.out)
       replace HB := a0_ (below_drew1 HB.out)
       refine stH_ 22 [] ht_ (fun hHeld => ?_); refine with_tabW impl_SetsOf.tab8 impl_SetsOf.bits8 (fun HT_ HW_ => ?_)
       generalize w20.drew = w21 at HO_4 HO_19 BK547 HB hHeld ⊢
       refine p_ 0 28 ?_
       refine p_ 1 29 ?_
       refine p_ 2 30 ?_
       refine s_ 3 31 ?_
       refine s_ 4 32 ?_
       refine s_ 5 33 ?_
       refine s_ 6 34 ?_
       refine s_ 7 35 ?_
       refine s_ 8 36 ?_
       refine s_ 9 37 ?_
       refine s_ 10 38 ?_
       refine p_ 11 39 ?_
       refine p_ 12 40 ?_
       refine s_ 13 41 ?_
       refine s_ 14 42 ?_
       refine s_ 15 43 ?_
       refine s_ 16 44 ?_
       refine s_ 17 45 ?_
       refine s_ 18 46 ?_
       refine s_ 19 47 ?_
       refine s_ 20 48 ?_
       refine p_ 21 49 ?_
       refine done_ (done_of HT_.out (by kernel_rfl)) ?_
       try go_wp2
       (try rw [← hji22]); (try rw [← hji37]); skip
       go_meet
       case rel => exact ⟨_, (true), rs_, (by first | exact H' | (rw [hji22]; exact H') | (rw [hji37]; exact H')), ⟨by have := HJ1.out; have := HK2.out; first | omega | exact Nat.le_refl _⟩, ⟨kS_ HO_4.out⟩, ⟨kR_ HO_19.out⟩, ⟨bz_⟩, ⟨bq1_⟩⟩
      rw [if_neg c19] at H
      have c19b0 := decide_eq_false c19
      clear c19
      (first | rw [c19b0] | (simp only [i64_w, i32_w]; rw [c19b0]) | skip)
      obtain ⟨ji22, hji22⟩ : ∃ j_ : Int, (wrap64 ((x4_2.length : Int) - 1)) = j_ := ⟨_, rfl⟩
      (first | rw [hji22] at H | simp only [hji22] at H)
      (try rw [hji22] at c19b0)
      have hji22w : (IntKind.i64.wrap ((x4_2.length : Int) - 1)) = ji22 := (i64_w _).trans hji22
      by_cases c23 : 0 ≤ (ji22)
      case neg =>
       rw [if_neg c23] at H
       exact absurd H (by simp)
      rw [if_pos c23] at H
      have c23b0 := decide_eq_true c23
      clear c23
      by_cases c24 : (ji22) < (x4_2.length : Int)
      case neg =>
       rw [if_neg c24] at H
       exact absurd H (by simp)
      rw [if_pos c24] at H
      have c24b0 := decide_eq_true c24
      clear c24
      by_cases c25 : ((rd_T83 x4_2 (ji22)).f0).toList = ((rd_T45 t543 x21_2).f0).toList
      case neg =>
       rw [if_neg c25] at H
       have c25b0 := beq_eq_false_iff_ne.mpr c25
       have c25b1 := bne_iff_ne.mpr c25
       have H' := a0_ H
       clear H
       try go_wp2
       generalize hE_ : ((((w16.setCell ⟨gb547, 0, none⟩ (.string ((rd_T45 t543 x21_2).f0))).setCell ⟨gb547, 1, none⟩ (.int .i64 ((rd_T45 t543 x21_2).f1))).setCell ⟨gb547, 2, none⟩ (.int .i64 ((rd_T45 t543 x21_2).f2))).setCell ⟨gb547, 3, none⟩ (.string ((rd_T45 t543 x21_2).f3))) = w28
       have n0_ : Aside0 (Kd.S k83 83 w28 w.heap.size (fun _ => True) (.slice Ao18 x4_2.length co18) x4_2) := ⟨by rw [← hE_]; exact kS_ (Kd.S_mono (sf4_ gb547 (Kd.S_types HO_4.out BK547.out (by decide)) (fun _ hk => hk.2) (.string ((rd_T45 t543 x21_2).f0)) (.int .i64 ((rd_T45 t543 x21_2).f1)) (.int .i64 ((rd_T45 t543 x21_2).f2)) (.string ((rd_T45 t543 x21_2).f3))) (fun _ hk => trivial))⟩
       have n1_ : Aside0 (Kd.R k45 45 w28 w.heap.size (fun k_ => k_ ≠ gb547) (.slice (some ad546) t543.length co11) t543) := ⟨by rw [← hE_]; exact kR_ (Kd.R_mono (rf4_ gb547 (Kd.R_mono HO_19.out (fun k_ hk => (⟨hk, hk.2⟩ : _ ∧ k_ ≠ gb547))) (fun _ hk => hk.2) (.string ((rd_T45 t543 x21_2).f0)) (.int .i64 ((rd_T45 t543 x21_2).f1)) (.int .i64 ((rd_T45 t543 x21_2).f2)) (.string ((rd_T45 t543 x21_2).f3))) (fun _ hk => hk.1.2))⟩
       have n2_ : Aside0 (w28.heap[gb547]? = some (.cells #[.string ((rd_T45 t543 x21_2).f0), .int .i64 ((rd_T45 t543 x21_2).f1), .int .i64 ((rd_T45 t543 x21_2).f2), .string ((rd_T45 t543 x21_2).f3)] 45 (0, 0))) := ⟨by rw [← hE_]; exact put4_ BK547.out⟩
       have n3_ : Aside0 (Below w.heap.size w w28) := ⟨by rw [← hE_]; exact bq1_⟩
       (try clear HO_4)
       (try clear HO_19)
       (try clear BK547)
       (try clear HB)
       clear hE_
       have HO_4 := n0_
       have HO_19 := n1_
       have BK547 := n2_
       have HB := n3_
       clear n0_ n1_ n2_ n3_
       replace HO_4 := a0_ (Kd.S_drew HO_4.out)
       replace HO_19 := a0_ (Kd.R_drew HO_19.out)
       replace BK547 := a0_ (blk_drew BK547.out)
       replace HB := a0_ (below_drew1 HB.out)
       have p548 : 0 ≤ ((ji22) : Int) := dec_
       have q548 : (ji22) < (x4_2.length : Int) := dec_
       obtain ⟨ad548, A548_3, c548_3, e548, hx548_0, hx548_1, hx548_2, hx548_3, hl548_3, hi548_3⟩ := at_T83 (Kd.S_reads' HO_4.out).2.2 (ji22) p548 q548
       cases e548
       obtain ⟨ce548, hce548, hMe548, hcc548⟩ := Kd.S_get HO_4.out z83 (ji22) p548 (by first | exact q548 | exact dec_ | (have e_ := (Kd.S_reads' HO_4.out).1; omega))
       obtain ⟨ve548_3, rfl, ge548_3⟩ := k83_openM hMe548
       have hv548_3 := hcc548 3 _ rfl
       rw [add_field _ _ 3 (by omega)] at hv548_3
       replace hv548_3 := Option.some.inj (hv548_3.symm.trans hx548_3)
       rw [hv548_3] at ge548_3
       have HL548_3 := a0_ (show Kd.R Kd.string 9 _ _ _ _ ((rd_T83 x4_2 (ji22)).f3) from ge548_3)
       clear hv548_3 ge548_3
       have HX548_3 := a0_ hx548_3
       clear hcc548 hce548
       have HR548_3 := a0_ hi548_3
       have HC548_3 := a0_ hl548_3
       clear hi548_3 hl548_3
       replace p548 := eq_true p548
       replace q548 := eq_true q548
       refine stH_ 22 [] (cb_ BK547.out (e4_ hx548_0 hx548_1 hx548_2 hx548_3)) (fun hHeld => ?_); refine with_tabW impl_SetsOf.tab8 impl_SetsOf.bits8 (fun HT_ HW_ => ?_)
       generalize w28.drew = w29 at HO_4 HO_19 BK547 HB HL548_3 HR548_3 HX548_3 hx548_0 hx548_1 hx548_2 hx548_3 hHeld ⊢
       refine p_ 0 28 ?_
       refine p_ 1 29 ?_
       refine p_ 2 30 ?_
       refine p_ 3 31 ?_
       refine p_ 4 32 ?_
       refine p_ 5 33 ?_
       refine p_ 6 34 ?_
       refine p_ 8 36 ?_
       refine t_ 7 35 ?_
       refine t_ 9 37 ?_
       refine p_ 10 38 ?_
       refine p_ 11 39 ?_
       refine p_ 12 40 ?_
       refine s_ 13 41 ?_
       refine s_ 14 42 ?_
       refine s_ 15 43 ?_
       refine s_ 16 44 ?_
       refine s_ 17 45 ?_
       refine s_ 18 46 ?_
       refine s_ 19 47 ?_
       refine s_ 20 48 ?_
       refine p_ 21 49 ?_
       refine done_ (done_of HT_.out (by kernel_rfl)) ?_
       try go_wp2
       (try rw [← hji22]); (try rw [← hji37]); skip
       go_meet
       case rel => exact ⟨_, (true), rs_, (by first | exact H' | (rw [hji22]; exact H') | (rw [hji37]; exact H')), ⟨by have := HJ1.out; have := HK2.out; first | omega | exact Nat.le_refl _⟩, ⟨kS_ HO_4.out⟩, ⟨kR_ HO_19.out⟩, ⟨bz_⟩, ⟨bq1_⟩⟩
      rw [if_pos c25] at H
      have c25b0 := beq_iff_eq.mpr c25
      have c25b1 := bne_eq_false_iff_eq.mpr c25
      clear c25
      have H' := a0_ H
      clear H
      try go_wp2
      generalize hE_ : ((((w16.setCell ⟨gb547, 0, none⟩ (.string ((rd_T45 t543 x21_2).f0))).setCell ⟨gb547, 1, none⟩ (.int .i64 ((rd_T45 t543 x21_2).f1))).setCell ⟨gb547, 2, none⟩ (.int .i64 ((rd_T45 t543 x21_2).f2))).setCell ⟨gb547, 3, none⟩ (.string ((rd_T45 t543 x21_2).f3))) = w26
      have n0_ : Aside0 (Kd.S k83 83 w26 w.heap.size (fun _ => True) (.slice Ao18 x4_2.length co18) x4_2) := ⟨by rw [← hE_]; exact kS_ (Kd.S_mono (sf4_ gb547 (Kd.S_types HO_4.out BK547.out (by decide)) (fun _ hk => hk.2) (.string ((rd_T45 t543 x21_2).f0)) (.int .i64 ((rd_T45 t543 x21_2).f1)) (.int .i64 ((rd_T45 t543 x21_2).f2)) (.string ((rd_T45 t543 x21_2).f3))) (fun _ hk => trivial))⟩
      have n1_ : Aside0 (Kd.R k45 45 w26 w.heap.size (fun k_ => k_ ≠ gb547) (.slice (some ad546) t543.length co11) t543) := ⟨by rw [← hE_]; exact kR_ (Kd.R_mono (rf4_ gb547 (Kd.R_mono HO_19.out (fun k_ hk => (⟨hk, hk.2⟩ : _ ∧ k_ ≠ gb547))) (fun _ hk => hk.2) (.string ((rd_T45 t543 x21_2).f0)) (.int .i64 ((rd_T45 t543 x21_2).f1)) (.int .i64 ((rd_T45 t543 x21_2).f2)) (.string ((rd_T45 t543 x21_2).f3))) (fun _ hk => hk.1.2))⟩
      have n2_ : Aside0 (w26.heap[gb547]? = some (.cells #[.string ((rd_T45 t543 x21_2).f0), .int .i64 ((rd_T45 t543 x21_2).f1), .int .i64 ((rd_T45 t543 x21_2).f2), .string ((rd_T45 t543 x21_2).f3)] 45 (0, 0))) := ⟨by rw [← hE_]; exact put4_ BK547.out⟩
      have n3_ : Aside0 (Below w.heap.size w w26) := ⟨by rw [← hE_]; exact bq1_⟩
      (try clear HO_4)
      (try clear HO_19)
      (try clear BK547)
      (try clear HB)
      clear hE_
      have HO_4 := n0_
      have HO_19 := n1_
      have BK547 := n2_
      have HB := n3_
      clear n0_ n1_ n2_ n3_
      replace HO_4 := a0_ (Kd.S_drew HO_4.out)
      replace HO_19 := a0_ (Kd.R_drew HO_19.out)
      replace BK547 := a0_ (blk_drew BK547.out)
      replace HB := a0_ (below_drew1 HB.out)
      have p548 : 0 ≤ ((ji22) : Int) := dec_
      have q548 : (ji22) < (x4_2.length : Int) := dec_
      obtain ⟨ad548, A548_3, c548_3, e548, hx548_0, hx548_1, hx548_2, hx548_3, hl548_3, hi548_3⟩ := at_T83 (Kd.S_reads' HO_4.out).2.2 (ji22) p548 q548
      cases e548
      obtain ⟨ce548, hce548, hMe548, hcc548⟩ := Kd.S_get HO_4.out z83 (ji22) p548 (by first | exact q548 | exact dec_ | (have e_ := (Kd.S_reads' HO_4.out).1; omega))
      obtain ⟨ve548_3, rfl, ge548_3⟩ := k83_openM hMe548
      have hv548_3 := hcc548 3 _ rfl
      rw [add_field _ _ 3 (by omega)] at hv548_3
      replace hv548_3 := Option.some.inj (hv548_3.symm.trans hx548_3)
      rw [hv548_3] at ge548_3
      have HL548_3 := a0_ (show Kd.R Kd.string 9 _ _ _ _ ((rd_T83 x4_2 (ji22)).f3) from ge548_3)
      clear hv548_3 ge548_3
      have HX548_3 := a0_ hx548_3
      clear hcc548 hce548
      have HR548_3 := a0_ hi548_3
      have HC548_3 := a0_ hl548_3
      clear hi548_3 hl548_3
      replace p548 := eq_true p548
      replace q548 := eq_true q548
      have p549 : 0 ≤ ((ji22) : Int) := dec_
      have q549 : (ji22) < (x4_2.length : Int) := dec_
      obtain ⟨ad549, A549_3, c549_3, e549, hx549_0, hx549_1, hx549_2, hx549_3, hl549_3, hi549_3⟩ := at_T83 (Kd.S_reads' HO_4.out).2.2 (ji22) p549 q549
      obtain rfl : ad548 = ad549 := (by injection e549)
      obtain ⟨ce549, hce549, hMe549, hcc549⟩ := Kd.S_get HO_4.out z83 (ji22) p549 (by first | exact q549 | exact dec_ | (have e_ := (Kd.S_reads' HO_4.out).1; omega))
      obtain ⟨ve549_3, rfl, ge549_3⟩ := k83_openM hMe549
      have hv549_3 := hcc549 3 _ rfl
      rw [add_field _ _ 3 (by omega)] at hv549_3
      replace hv549_3 := Option.some.inj (hv549_3.symm.trans hx549_3)
      rw [hv549_3] at ge549_3
      have HL549_3 := a0_ (show Kd.R Kd.string 9 _ _ _ _ ((rd_T83 x4_2 (ji22)).f3) from ge549_3)
      clear hv549_3 ge549_3
      have HX549_3 := a0_ hx549_3
      clear hcc549 hce549
      have HR549_3 := a0_ hi549_3
      have HC549_3 := a0_ hl549_3
      clear hi549_3 hl549_3
      replace p549 := eq_true p549
      replace q549 := eq_true q549
      have ea_ := Option.some.inj (hx548_3.symm.trans hx549_3)
      injection ea_ with ea_ en_ ec_
      subst ea_
      subst ec_
      clear en_
      refine stH_ 22 [] (cb_ BK547.out (c4_ hx548_0 hx548_1 hx548_2 hx548_3 (e4_ hx549_0 hx549_1 hx549_2 hx549_3))) (fun hHeld => ?_); refine with_tabW impl_SetsOf.tab8 impl_SetsOf.bits8 (fun HT_ HW_ => ?_)
      generalize w26.drew = w27 at HO_4 HO_19 BK547 HB HL548_3 HL549_3 HR548_3 HR549_3 HX548_3 HX549_3 hx548_0 hx548_1 hx548_2 hx548_3 hx549_0 hx549_1 hx549_2 hx549_3 hHeld ⊢
      refine p_ 0 28 ?_
      refine p_ 1 29 ?_
      refine p_ 2 30 ?_
      refine p_ 3 31 ?_
      refine p_ 4 32 ?_
      refine p_ 5 33 ?_
      refine p_ 6 34 ?_
      refine p_ 8 36 ?_
      refine t_ 7 35 ?_
      refine t_ 9 37 ?_
      refine p_ 10 38 ?_
      refine p_ 11 39 ?_
      refine p_ 12 40 ?_
      refine p_ 13 41 ?_
      refine p_ 14 42 ?_
      refine p_ 15 43 ?_
      refine p_ 16 44 ?_
      refine p_ 18 46 ?_
      refine t_ 17 45 ?_
      refine t_ 19 47 ?_
      refine p_ 20 48 ?_
      refine p_ 21 49 ?_
      refine done_ (done_of HT_.out (by kernel_rfl)) ?_
      try go_wp2
      (try rw [← hji22]); (try rw [← hji37]); skip
      go_meet
      case rel => exact ⟨_, ((((rd_T83 x4_2 (ji22)).f1) != ((rd_T45 t543 x21_2).f1))), (by first | rfl | (simp; done) | (simp only [← hji22] <;> (first | rfl | simp)) | (simp [*]; done)), (by first | exact H' | (rw [hji22]; exact H') | (rw [hji37]; exact H')), ⟨by have := HJ1.out; have := HK2.out; first | omega | exact Nat.le_refl _⟩, ⟨kS_ HO_4.out⟩, ⟨kR_ HO_19.out⟩, ⟨bz_⟩, ⟨bq1_⟩⟩
     case rest =>
      clear HC15
      try clear c2
      try clear p2
      obtain ⟨kq, x49_14, rfl, HA, HJ14, HO_4, HO_19, BK547, HB⟩ := hcut
      cases kq with
      | zero => exact absurd HA.out (by simp [impl_SetsOf.j2])
      | succ kj14 =>
       have H := HA.out
       clear HA
       simp only [impl_SetsOf.j2] at H
       by_cases c30 : x49_14 = true
       case pos =>
        subst c30
        rw [if_pos rfl] at H
        obtain ⟨y550, hy550⟩ : ∃ y_ : List ByteArray, y_ = (([((rd_T45 t543 x21_2).f3)] : List ByteArray)) := ⟨_, rfl⟩
        rw [← hy550] at H
        have Ny550 := a0_ hy550
        clear hy550
        by_cases c31 : x4_2.length < 2513169434916
        case neg =>
         rw [if_neg c31] at H
         exact absurd H (by simp)
        rw [if_pos c31] at H
        have LMc31 := a0_ c31
        clear c31
        obtain ⟨y553, hy553⟩ : ∃ y_ : List (S83), y_ = (x4_2 ++ [(⟨((rd_T45 t543 x21_2).f0), ((rd_T45 t543 x21_2).f1), ((rd_T45 t543 x21_2).f2), y550⟩ : S83)]) := ⟨_, rfl⟩
        rw [← hy553] at H
        have Ny553 := a0_ hy553
        clear hy553
        have H' := a0_ H
        clear H
        obtain ⟨_, _, _, _, _, _, _, _⟩ := bk4_ BK547.out
        go_wp2_with (first | ((with_reducible refine gate_dst (N := 59) rfl ?_); refine ls_ 59 9 ([((rd_T45 t543 x21_2).f3)] : List ByteArray) ?_; intro v551 w33 ho34 hb hg_ hnew_; clear hg_ hnew_; (first | rw [← Ny550.out] at ho34 | (simp only [Int.reduceToNat] at ho34; rw [← Ny550.out] at ho34)); replace HO_4 := a0_ (Kd.S_elder' (by (with_reducible repeat (first | apply Kd.S_alloc | apply Kd.S_drewN | apply Kd.S_drew)); exact HO_4.out) (Kd.R_base ho34) hb); replace HO_19 := a0_ (Kd.R_below (kR_ HO_19.out) hb); have HO552 := a0_ (Kd.R_lower ho34 (below_size bq1_)); replace BK547 := a0_ (bkB_ BK547 hb); replace HB := a0_ (below_step bq1_ hb); clear hb ho34; obtain ⟨Ao35, co35, eo35⟩ := Kd.R_slice HO552.out; subst eo35) | ((with_reducible refine gate_builtin (b := .append) (xs := #[.tmp 50, .tmp 61]) rfl ?_); at_builtin; refine Kd.S_append k83 (w0 := w) w.heap.size rfl (.tmp 50) (.tmp 61) 30 83 (.agg #[(.string ⟨#[]⟩), (.int .i64 0), (.int .i64 0), (.slice none 0 0)]) 56 rfl Tryz.underlying30 info83 rfl (by decide) (by omega) (.slice Ao18 x4_2.length co18) x4_2 (⟨((rd_T45 t543 x21_2).f0), ((rd_T45 t543 x21_2).f1), ((rd_T45 t543 x21_2).f2), y550⟩ : S83) [.string ((rd_T45 t543 x21_2).f0), .int .i64 ((rd_T45 t543 x21_2).f1), .int .i64 ((rd_T45 t543 x21_2).f2), .slice Ao35 y550.length co35] (fun _ => True) (fun k_ => some k_ = (.slice Ao35 y550.length co35 : Value).ownBlock) rfl rfl ?aP (fun k_ hk_ => ((Kd.R_mono (ok' := fun k_ => ((fun _ => True)) k_ ∧ nw_ k_ Ao18 x4_2.length co18) (Kd.R_apart' (HO552.out) (Kd.S_typed HO_4.out) (by decide)) (fun k_ hk => ⟨trivial, hk.2⟩))).1 k_ hk_.symm) ?aF ?aO ?aB ?aS ?aL ?_; (case aP => exact k83_mkM _ _ _ (⟨((rd_T45 t543 x21_2).f0), ((rd_T45 t543 x21_2).f1), ((rd_T45 t543 x21_2).f2), y550⟩ : S83) (Kd.R_mono (Kd.R_tight rfl (Kd.R_mono (ok' := fun k_ => ((fun _ => True)) k_ ∧ nw_ k_ Ao18 x4_2.length co18) (Kd.R_apart' (HO552.out) (Kd.S_typed HO_4.out) (by decide)) (fun k_ hk => ⟨trivial, hk.2⟩))) (fun _ h_ => h_))); (case aB => exact bq1_); (case aF => exact (fun _ _ => trivial)); (case aO => exact (by (with_reducible repeat (first | apply Kd.S_alloc | apply Kd.S_drewN | apply Kd.S_drew)); exact Kd.S_mono HO_4.out (fun k_ hk => ⟨trivial, fun e_ => hk.2 e_⟩))); (case aS => exact (below_size bq1_)); (case aL => have := LMc31.out; omega); intro v554 w36 ho hb hg hat; rw [← Ny553.out] at ho; replace HO_19 := a0_ (Kd.R_over' (kR_ HO_19.out) (Kd.S_typed (kS_ HO_4.out)) (by decide) hg); replace BK547 := a0_ (blk_grown (g := gb547) (o := .cells #[.string ((rd_T45 t543 x21_2).f0), .int .i64 ((rd_T45 t543 x21_2).f1), .int .i64 ((rd_T45 t543 x21_2).f2), .string ((rd_T45 t543 x21_2).f3)] 45 (0, 0)) (kB_ BK547.out) hg (Kd.S_ne HO_4.out BK547.out (by decide))); replace HB := a0_ (hb); have HO555 := a0_ (ho); clear HO_4 HO552; clear ho hb hg hat))
        go_roundg kj14
        case measure => have := HJ1.out; have := HK2.out; have := HJ14.out; omega
        case rel => exact ⟨(y553), (wrap64 (x21_2 + 1)), rs_, H', jn_ HJ1 HK2 HJ14, ⟨kS_ HO555.out⟩, ⟨kR_ (Kd.R_mono HO_19.out (fun _ hk => trivial))⟩, ⟨bq1_⟩⟩
       replace c30 := Bool.eq_false_iff.mpr c30
       subst c30
       rw [if_neg ff_] at H
       obtain ⟨ji37, hji37⟩ : ∃ j_ : Int, (wrap64 ((x4_2.length : Int) - 1)) = j_ := ⟨_, rfl⟩
       (first | rw [hji37] at H | simp only [hji37] at H)
       have hji37w : (IntKind.i64.wrap ((x4_2.length : Int) - 1)) = ji37 := (i64_w _).trans hji37
       by_cases c38 : 0 ≤ (ji37)
       case neg =>
        rw [if_neg c38] at H
        exact absurd H (by simp)
       rw [if_pos c38] at H
       have c38b0 := decide_eq_true c38
       clear c38
       by_cases c39 : (ji37) < (x4_2.length : Int)
       case neg =>
        rw [if_neg c39] at H
        exact absurd H (by simp)
       rw [if_pos c39] at H
       have c39b0 := decide_eq_true c39
       clear c39
       by_cases c40 : ((rd_T83 x4_2 (ji37)).f2) = ((rd_T45 t543 x21_2).f2)
       case neg =>
        rw [if_neg c40] at H
        have c40b0 := beq_eq_false_iff_ne.mpr c40
        have c40b1 := bne_iff_ne.mpr c40
        simp only [Option.some.injEq, Prod.mk.injEq] at H
        obtain ⟨rfl, rfl⟩ := H
        try go_wp2
        replace HO_4 := a0_ (Kd.S_drew HO_4.out)
        replace HO_19 := a0_ (Kd.R_drew HO_19.out)
        replace BK547 := a0_ (blk_drew BK547.out)
        replace HB := a0_ (below_drew1 HB.out)
        have p556 : 0 ≤ ((ji37) : Int) := dec_
        have q556 : (ji37) < (x4_2.length : Int) := dec_
        obtain ⟨ad556, A556_3, c556_3, e556, hx556_0, hx556_1, hx556_2, hx556_3, hl556_3, hi556_3⟩ := at_T83 (Kd.S_reads' HO_4.out).2.2 (ji37) p556 q556
        cases e556
        obtain ⟨ce556, hce556, hMe556, hcc556⟩ := Kd.S_get HO_4.out z83 (ji37) p556 (by first | exact q556 | exact dec_ | (have e_ := (Kd.S_reads' HO_4.out).1; omega))
        obtain ⟨ve556_3, rfl, ge556_3⟩ := k83_openM hMe556
        have hv556_3 := hcc556 3 _ rfl
        rw [add_field _ _ 3 (by omega)] at hv556_3
        replace hv556_3 := Option.some.inj (hv556_3.symm.trans hx556_3)
        rw [hv556_3] at ge556_3
        have HL556_3 := a0_ (show Kd.R Kd.string 9 _ _ _ _ ((rd_T83 x4_2 (ji37)).f3) from ge556_3)
        clear hv556_3 ge556_3
        have HX556_3 := a0_ hx556_3
        clear hcc556 hce556
        have HR556_3 := a0_ hi556_3
        have HC556_3 := a0_ hl556_3
        clear hi556_3 hl556_3
        replace p556 := eq_true p556
        replace q556 := eq_true q556
        refine stH_ 8 [] (cb_ BK547.out (e4_ hx556_0 hx556_1 hx556_2 hx556_3)) (fun hHeld => ?_); refine with_tabW impl_SetsOf.tab10 impl_SetsOf.bits10 (fun HT_ HW_ => ?_)
        generalize wc.drew = w55 at HO_4 HO_19 BK547 HB HL556_3 HR556_3 HX556_3 hx556_0 hx556_1 hx556_2 hx556_3 hHeld ⊢
        refine p_ 0 63 ?_
        refine p_ 1 64 ?_
        refine p_ 2 65 ?_
        refine p_ 3 66 ?_
        refine p_ 5 68 ?_
        refine t_ 4 67 ?_
        refine t_ 6 69 ?_
        refine p_ 7 70 ?_
        refine done_ (done_of HT_.out (by kernel_rfl)) ?_
        try go_wp2
        go_ret2
        exact ⟨_, by first | rfl | (simp [errW_none, errW_some] <;> rfl) | (simp only [← hji37]; first | rfl | (simp [errW_none, errW_some] <;> rfl)) | (simp [*, errW_none, errW_some] <;> rfl), by first | exact Kd.S_nil _ _ _ _ _ | exact Kd.N_nil _ _ _ _ _ | exact Kd.V_nil _ _ _ _ _ | exact Kd.Q_nil _ _ _ _ _ | exact Kd.R_nil _ _ _ _ _, bq1_⟩
       rw [if_pos c40] at H
       have c40b0 := beq_iff_eq.mpr c40
       have c40b1 := bne_eq_false_iff_eq.mpr c40
       clear c40
       obtain ⟨t558, A41, H⟩ := ob_ H
       by_cases c42 : t558 = true
       case pos =>
        subst c42
        rw [if_pos rfl] at H
        have H' := a0_ H
        clear H
        try go_wp2
        replace HO_4 := a0_ (Kd.S_drew HO_4.out)
        replace HO_19 := a0_ (Kd.R_drew HO_19.out)
        replace BK547 := a0_ (blk_drew BK547.out)
        replace HB := a0_ (below_drew1 HB.out)
        have p556 : 0 ≤ ((ji37) : Int) := dec_
        have q556 : (ji37) < (x4_2.length : Int) := dec_
        obtain ⟨ad556, A556_3, c556_3, e556, hx556_0, hx556_1, hx556_2, hx556_3, hl556_3, hi556_3⟩ := at_T83 (Kd.S_reads' HO_4.out).2.2 (ji37) p556 q556
        cases e556
        obtain ⟨ce556, hce556, hMe556, hcc556⟩ := Kd.S_get HO_4.out z83 (ji37) p556 (by first | exact q556 | exact dec_ | (have e_ := (Kd.S_reads' HO_4.out).1; omega))
        obtain ⟨ve556_3, rfl, ge556_3⟩ := k83_openM hMe556
        have hv556_3 := hcc556 3 _ rfl
        rw [add_field _ _ 3 (by omega)] at hv556_3
        replace hv556_3 := Option.some.inj (hv556_3.symm.trans hx556_3)
        rw [hv556_3] at ge556_3
        have HL556_3 := a0_ (show Kd.R Kd.string 9 _ _ _ _ ((rd_T83 x4_2 (ji37)).f3) from ge556_3)
        clear hv556_3 ge556_3
        have HX556_3 := a0_ hx556_3
        clear hcc556 hce556
        have HR556_3 := a0_ hi556_3
        have HC556_3 := a0_ hl556_3
        clear hi556_3 hl556_3
        replace p556 := eq_true p556
        replace q556 := eq_true q556
        refine stH_ 8 [] (cb_ BK547.out (e4_ hx556_0 hx556_1 hx556_2 hx556_3)) (fun hHeld => ?_); refine with_tabW impl_SetsOf.tab10 impl_SetsOf.bits10 (fun HT_ HW_ => ?_)
        generalize wc.drew = w43 at HO_4 HO_19 BK547 HB HL556_3 HR556_3 HX556_3 hx556_0 hx556_1 hx556_2 hx556_3 hHeld ⊢
        refine p_ 0 63 ?_
        refine p_ 1 64 ?_
        refine p_ 2 65 ?_
        refine p_ 3 66 ?_
        refine p_ 5 68 ?_
        refine t_ 4 67 ?_
        refine t_ 6 69 ?_
        refine p_ 7 70 ?_
        refine done_ (done_of HT_.out (by kernel_rfl)) ?_
        try go_wp2
        replace HO_4 := a0_ (Kd.S_drew HO_4.out)
        replace HO_19 := a0_ (Kd.R_drew HO_19.out)
        replace HL556_3 := a0_ (Kd.R_drew HL556_3.out)
        replace BK547 := a0_ (blk_drew BK547.out)
        replace HR556_3 := a0_ (Kd.C_drew HR556_3.out)
        replace HB := a0_ (below_drew1 HB.out)
        have p557 : 0 ≤ ((ji37) : Int) := dec_
        have q557 : (ji37) < (x4_2.length : Int) := dec_
        obtain ⟨ad557, A557_3, c557_3, e557, hx557_0, hx557_1, hx557_2, hx557_3, hl557_3, hi557_3⟩ := at_T83 (Kd.S_reads' HO_4.out).2.2 (ji37) p557 q557
        obtain rfl : ad556 = ad557 := (by injection e557)
        obtain ⟨ce557, hce557, hMe557, hcc557⟩ := Kd.S_get HO_4.out z83 (ji37) p557 (by first | exact q557 | exact dec_ | (have e_ := (Kd.S_reads' HO_4.out).1; omega))
        obtain ⟨ve557_3, rfl, ge557_3⟩ := k83_openM hMe557
        have hv557_3 := hcc557 3 _ rfl
        rw [add_field _ _ 3 (by omega)] at hv557_3
        replace hv557_3 := Option.some.inj (hv557_3.symm.trans hx557_3)
        rw [hv557_3] at ge557_3
        have HL557_3 := a0_ (show Kd.R Kd.string 9 _ _ _ _ ((rd_T83 x4_2 (ji37)).f3) from ge557_3)
        clear hv557_3 ge557_3
        have HX557_3 := a0_ hx557_3
        clear hcc557 hce557
        have HR557_3 := a0_ hi557_3
        have HC557_3 := a0_ hl557_3
        clear hi557_3 hl557_3
        replace p557 := eq_true p557
        replace q557 := eq_true q557
        refine stH_ 9 [] (cb_ BK547.out (e4_ hx557_0 hx557_1 hx557_2 hx557_3)) (fun hHeld => ?_); refine with_tabW impl_SetsOf.tab12 impl_SetsOf.bits12 (fun HT_ HW_ => ?_)
        generalize w43.drew = w44 at HO_4 HO_19 HL556_3 BK547 HR556_3 HB HL557_3 HR557_3 HX557_3 hx557_0 hx557_1 hx557_2 hx557_3 hHeld ⊢
        refine p_ 0 71 ?_
        refine p_ 1 72 ?_
        refine p_ 2 73 ?_
        refine p_ 3 74 ?_
        refine p_ 5 76 ?_
        refine t_ 4 75 ?_
        refine t_ 6 77 ?_
        refine oneS_ 7 (some 78) (fun K hK => ?_)
        refine goes_ Tryz.func78 (by kernel_rfl) rfl #[.slice A557_3 ((rd_T83 x4_2 (ji37)).f3).length c557_3, .string ((rd_T45 t543 x21_2).f3)] (by rfl) rfl rfl (by (try simp only [List.map_toArray, List.map_cons, List.map_nil]); first | done | (simp only [hji37]; rfl) | rfl | (simp only [List.length_drop, List.length_take]; rfl)) ?_
        with_reducible refine (slices_Contains_string_string.calls kj14 _ _ ((rd_T83 x4_2 (ji37)).f3) ((rd_T45 t543 x21_2).f3) true _ ?side1 ?side2 A41.out).mono ?_
        (case side1 => exact kD_ HR557_3.out)
        (case side2 => exact HC557_3.out)
        rintro e w' ⟨rfl, ⟨nd, rfl⟩⟩
        refine ⟨_, rfl, ?_⟩
        refine hK.out _ _ (cb_ BK547.out (c1_ hHeld.2.2.2.2.1 (c1_ hHeld.2.2.2.2.2.1 (c1_ hHeld.2.2.2.2.2.2.1 (e1_ hHeld.2.2.2.2.2.2.2))))).out (fun hHeld => ?_)
        clear hK K
        refine normS_ ?_
        refine p_ 8 79 ?_
        refine done_ (done_of HT_.out (by kernel_rfl)) ?_
        try go_wp2
        go_roundg kj14
        case measure => have := HJ1.out; have := HK2.out; have := HJ14.out; omega
        case rel => exact ⟨(x4_2), (wrap64 (x21_2 + 1)), rs_, H', jn_ HJ1 HK2 HJ14, ⟨kS_ HO_4.out⟩, ⟨kR_ (Kd.R_mono HO_19.out (fun _ hk => trivial))⟩, ⟨bq1_⟩⟩
       replace c42 := Bool.eq_false_iff.mpr c42
       subst c42
       rw [if_neg ff_] at H
       by_cases c45 : ((rd_T83 x4_2 (ji37)).f3).length < 8796093022208
       case neg =>
        rw [if_neg c45] at H
        exact absurd H (by simp)
       rw [if_pos c45] at H
       have LMc45 := a0_ c45
       clear c45
       obtain ⟨y560, hy560⟩ : ∃ y_ : List ByteArray, y_ = (((rd_T83 x4_2 (ji37)).f3) ++ [((rd_T45 t543 x21_2).f3)]) := ⟨_, rfl⟩
       rw [← hy560] at H
       have Ny560 := a0_ hy560
       clear hy560
       obtain ⟨y563, hy563⟩ : ∃ y_ : List (S83), y_ = (x4_2.set ((ji37) : Int).toNat (⟨(rd_T83 x4_2 (ji37)).f0, (rd_T83 x4_2 (ji37)).f1, (rd_T83 x4_2 (ji37)).f2, y560⟩ : S83)) := ⟨_, rfl⟩
       rw [← hy563] at H
       have Ny563 := a0_ hy563
       clear hy563
       have H' := a0_ H
       clear H
       try go_wp2
       replace HO_4 := a0_ (Kd.S_drew HO_4.out)
       replace HO_19 := a0_ (Kd.R_drew HO_19.out)
       replace BK547 := a0_ (blk_drew BK547.out)
       replace HB := a0_ (below_drew1 HB.out)
       have p556 : 0 ≤ ((ji37) : Int) := dec_
       have q556 : (ji37) < (x4_2.length : Int) := dec_
       obtain ⟨ad556, A556_3, c556_3, e556, hx556_0, hx556_1, hx556_2, hx556_3, hl556_3, hi556_3⟩ := at_T83 (Kd.S_reads' HO_4.out).2.2 (ji37) p556 q556
       cases e556
       obtain ⟨ce556, hce556, hMe556, hcc556⟩ := Kd.S_get HO_4.out z83 (ji37) p556 (by first | exact q556 | exact dec_ | (have e_ := (Kd.S_reads' HO_4.out).1; omega))
       obtain ⟨ve556_3, rfl, ge556_3⟩ := k83_openM hMe556
       have hv556_3 := hcc556 3 _ rfl
       rw [add_field _ _ 3 (by omega)] at hv556_3
       replace hv556_3 := Option.some.inj (hv556_3.symm.trans hx556_3)
       rw [hv556_3] at ge556_3
       have HL556_3 := a0_ (show Kd.R Kd.string 9 _ _ _ _ ((rd_T83 x4_2 (ji37)).f3) from ge556_3)
       clear hv556_3 ge556_3
       have HX556_3 := a0_ hx556_3
       clear hcc556 hce556
       have HR556_3 := a0_ hi556_3
       have HC556_3 := a0_ hl556_3
       clear hi556_3 hl556_3
       replace p556 := eq_true p556
       replace q556 := eq_true q556
       refine stH_ 8 [] (cb_ BK547.out (e4_ hx556_0 hx556_1 hx556_2 hx556_3)) (fun hHeld => ?_); refine with_tabW impl_SetsOf.tab10 impl_SetsOf.bits10 (fun HT_ HW_ => ?_)
       generalize wc.drew = w47 at HO_4 HO_19 BK547 HB HL556_3 HR556_3 HX556_3 hx556_0 hx556_1 hx556_2 hx556_3 hHeld ⊢
       refine p_ 0 63 ?_
       refine p_ 1 64 ?_
       refine p_ 2 65 ?_
       refine p_ 3 66 ?_
       refine p_ 5 68 ?_
       refine t_ 4 67 ?_
       refine t_ 6 69 ?_
       refine p_ 7 70 ?_
       refine done_ (done_of HT_.out (by kernel_rfl)) ?_
       try go_wp2
       replace HO_4 := a0_ (Kd.S_drew HO_4.out)
       replace HO_19 := a0_ (Kd.R_drew HO_19.out)
       replace HL556_3 := a0_ (Kd.R_drew HL556_3.out)
       replace BK547 := a0_ (blk_drew BK547.out)
       replace HR556_3 := a0_ (Kd.C_drew HR556_3.out)
       replace HB := a0_ (below_drew1 HB.out)
       have p557 : 0 ≤ ((ji37) : Int) := dec_
       have q557 : (ji37) < (x4_2.length : Int) := dec_
       obtain ⟨ad557, A557_3, c557_3, e557, hx557_0, hx557_1, hx557_2, hx557_3, hl557_3, hi557_3⟩ := at_T83 (Kd.S_reads' HO_4.out).2.2 (ji37) p557 q557
       obtain rfl : ad556 = ad557 := (by injection e557)
       obtain ⟨ce557, hce557, hMe557, hcc557⟩ := Kd.S_get HO_4.out z83 (ji37) p557 (by first | exact q557 | exact dec_ | (have e_ := (Kd.S_reads' HO_4.out).1; omega))
       obtain ⟨ve557_3, rfl, ge557_3⟩ := k83_openM hMe557
       have hv557_3 := hcc557 3 _ rfl
       rw [add_field _ _ 3 (by omega)] at hv557_3
       replace hv557_3 := Option.some.inj (hv557_3.symm.trans hx557_3)
       rw [hv557_3] at ge557_3
       have HL557_3 := a0_ (show Kd.R Kd.string 9 _ _ _ _ ((rd_T83 x4_2 (ji37)).f3) from ge557_3)
       clear hv557_3 ge557_3
       have HX557_3 := a0_ hx557_3
       clear hcc557 hce557
       have HR557_3 := a0_ hi557_3
       have HC557_3 := a0_ hl557_3
       clear hi557_3 hl557_3
       replace p557 := eq_true p557
       replace q557 := eq_true q557
       refine stH_ 9 [] (cb_ BK547.out (e4_ hx557_0 hx557_1 hx557_2 hx557_3)) (fun hHeld => ?_); refine with_tabW impl_SetsOf.tab12 impl_SetsOf.bits12 (fun HT_ HW_ => ?_)
       generalize w47.drew = w48 at HO_4 HO_19 HL556_3 BK547 HR556_3 HB HL557_3 HR557_3 HX557_3 hx557_0 hx557_1 hx557_2 hx557_3 hHeld ⊢
       refine p_ 0 71 ?_
       refine p_ 1 72 ?_
       refine p_ 2 73 ?_
       refine p_ 3 74 ?_
       refine p_ 5 76 ?_
       refine t_ 4 75 ?_
       refine t_ 6 77 ?_
       refine oneS_ 7 (some 78) (fun K hK => ?_)
       refine goes_ Tryz.func78 (by kernel_rfl) rfl #[.slice A557_3 ((rd_T83 x4_2 (ji37)).f3).length c557_3, .string ((rd_T45 t543 x21_2).f3)] (by rfl) rfl rfl (by (try simp only [List.map_toArray, List.map_cons, List.map_nil]); first | done | (simp only [hji37]; rfl) | rfl | (simp only [List.length_drop, List.length_take]; rfl)) ?_
       with_reducible refine (slices_Contains_string_string.calls kj14 _ _ ((rd_T83 x4_2 (ji37)).f3) ((rd_T45 t543 x21_2).f3) false _ ?side1 ?side2 A41.out).mono ?_
       (case side1 => exact kD_ HR557_3.out)
       (case side2 => exact HC557_3.out)
       rintro e w' ⟨rfl, ⟨nd, rfl⟩⟩
       refine ⟨_, rfl, ?_⟩
       refine hK.out _ _ (cb_ BK547.out (c1_ hHeld.2.2.2.2.1 (c1_ hHeld.2.2.2.2.2.1 (c1_ hHeld.2.2.2.2.2.2.1 (e1_ hHeld.2.2.2.2.2.2.2))))).out (fun hHeld => ?_)
       clear hK K
       refine normS_ ?_
       refine p_ 8 79 ?_
       refine done_ (done_of HT_.out (by kernel_rfl)) ?_
       try go_wp2
       (try (rw [drewN_self w48]; generalize hq_ : World.drewN w48 _ = w48; have n0_ : Aside0 (Kd.R Kd.string 9 w48 w.heap.size (fun k_ => nw_ k_ (some ad556) x4_2.length co18) (.slice A556_3 ((rd_T83 x4_2 (ji37)).f3).length c556_3) ((rd_T83 x4_2 (ji37)).f3)) := ⟨by rw [← hq_]; exact (kR_ (Kd.R_mono HL556_3.out (fun _ hk => hk.2)))⟩; have n1_ : Aside0 (Kd.R Kd.string 9 w48 w.heap.size (fun k_ => nw_ k_ (some ad556) x4_2.length co18) (.slice A557_3 ((rd_T83 x4_2 (ji37)).f3).length c557_3) ((rd_T83 x4_2 (ji37)).f3)) := ⟨by rw [← hq_]; exact (kR_ (Kd.R_mono HL557_3.out (fun _ hk => hk.2)))⟩; have n2_ : Aside0 (Kd.R k45 45 w48 w.heap.size (fun k_ => k_ ≠ gb547) (.slice (some ad546) t543.length co11) t543) := ⟨by rw [← hq_]; exact (kR_ HO_19.out)⟩; have n3_ : Aside0 (Kd.S k83 83 w48 w.heap.size (fun _ => True) (.slice (some ad556) x4_2.length co18) x4_2) := ⟨by rw [← hq_]; exact (by (with_reducible repeat (first | apply Kd.S_alloc | apply Kd.S_drewN | apply Kd.S_drew)); exact HO_4.out)⟩; have n4_ : Aside0 (w48.heap[gb547]? = some (.cells #[.string ((rd_T45 t543 x21_2).f0), .int .i64 ((rd_T45 t543 x21_2).f1), .int .i64 ((rd_T45 t543 x21_2).f2), .string ((rd_T45 t543 x21_2).f3)] 45 (0, 0))) := ⟨by rw [← hq_]; exact (kB_ BK547.out)⟩; have n5_ : Aside0 (Below w.heap.size w w48) := ⟨by rw [← hq_]; exact bq1_⟩; have n6_ : Aside0 (Kd.C Kd.string w48 A556_3 ((rd_T83 x4_2 (ji37)).f3).length ((rd_T83 x4_2 (ji37)).f3)) := ⟨by rw [← hq_]; exact (kD_ HR556_3.out)⟩; have n7_ : Aside0 (Kd.C Kd.string w48 A557_3 ((rd_T83 x4_2 (ji37)).f3).length ((rd_T83 x4_2 (ji37)).f3)) := ⟨by rw [← hq_]; exact (kD_ HR557_3.out)⟩; clear HL556_3 HL557_3 HO_19 HO_4 BK547 HB HR556_3 HR557_3 hq_; have HL556_3 := n0_; have HL557_3 := n1_; have HO_19 := n2_; have HO_4 := n3_; have BK547 := n4_; have HB := n5_; have HR556_3 := n6_; have HR557_3 := n7_; clear n0_ n1_ n2_ n3_ n4_ n5_ n6_ n7_))
       replace HO_4 := a0_ (Kd.S_drew HO_4.out)
       replace HO_19 := a0_ (Kd.R_drew HO_19.out)
       replace HL556_3 := a0_ (Kd.R_drew HL556_3.out)
       replace HL557_3 := a0_ (Kd.R_drew HL557_3.out)
       replace BK547 := a0_ (blk_drew BK547.out)
       replace HR556_3 := a0_ (Kd.C_drew HR556_3.out)
       replace HR557_3 := a0_ (Kd.C_drew HR557_3.out)
       replace HB := a0_ (below_drew1 HB.out)
       have p559 : 0 ≤ ((ji37) : Int) := dec_
       have q559 : (ji37) < (x4_2.length : Int) := dec_
       obtain ⟨ad559, A559_3, c559_3, e559, hx559_0, hx559_1, hx559_2, hx559_3, hl559_3, hi559_3⟩ := at_T83 (Kd.S_reads' HO_4.out).2.2 (ji37) p559 q559
       obtain rfl : ad556 = ad559 := (by injection e559)
       obtain ⟨ce559, hce559, hMe559, hcc559⟩ := Kd.S_get HO_4.out z83 (ji37) p559 (by first | exact q559 | exact dec_ | (have e_ := (Kd.S_reads' HO_4.out).1; omega))
       obtain ⟨ve559_3, rfl, ge559_3⟩ := k83_openM hMe559
       have hv559_3 := hcc559 3 _ rfl
       rw [add_field _ _ 3 (by omega)] at hv559_3
       replace hv559_3 := Option.some.inj (hv559_3.symm.trans hx559_3)
       rw [hv559_3] at ge559_3
       have HL559_3 := a0_ (show Kd.R Kd.string 9 _ _ _ _ ((rd_T83 x4_2 (ji37)).f3) from ge559_3)
       clear hv559_3 ge559_3
       have HX559_3 := a0_ hx559_3
       clear hcc559 hce559
       have HR559_3 := a0_ hi559_3
       have HC559_3 := a0_ hl559_3
       clear hi559_3 hl559_3
       replace p559 := eq_true p559
       replace q559 := eq_true q559
       obtain ⟨go50, co50, eo50, gb50, gl50, cl50, HG50⟩ := Kd.S_form HO_4.out (by have h_ : ((ji37) : Int) < ((x4_2.length : Int) : Int) := dec_; have h2_ : 0 ≤ ((ji37) : Int) := (dec_); omega)
       (first | cases eo50 | (injection eo50 with ea_ en_ ec_; (first | subst ea_ | (injection ea_ with ea_; subst ea_)); subst ec_; clear en_))
       have GB50 := a0_ gb50
       have GG50 := a0_ HG50
       clear gb50 gl50 HG50
       (first | simp only [add_plain] at hx556_0 | skip)
       (first | simp only [add_plain] at hx556_1 | skip)
       (first | simp only [add_plain] at hx556_2 | skip)
       (first | simp only [add_plain] at hx556_3 | skip)
       (first | simp only [add_plain] at hx557_0 | skip)
       (first | simp only [add_plain] at hx557_1 | skip)
       (first | simp only [add_plain] at hx557_2 | skip)
       (first | simp only [add_plain] at hx557_3 | skip)
       (first | simp only [add_plain] at hx559_0 | skip)
       (first | simp only [add_plain] at hx559_1 | skip)
       (first | simp only [add_plain] at hx559_2 | skip)
       (first | simp only [add_plain] at hx559_3 | skip)
       obtain ⟨oki50, ce50, hcl50, hM50, hcc50, _, _, hH50⟩ := Kd.S_elem HO_4.out z83 ((ji37) : Int) (dec_) (by have h_ : ((ji37) : Int) < ((x4_2.length : Int) : Int) := dec_; first | exact h_ | (have e_ := (Kd.S_reads' HO_4.out).1; omega) | simpa using h_)
       obtain ⟨ve50_3, rfl, ge50_3⟩ := k83_openM hM50
       have hv50 := hcc50 3 _ rfl
       have hX50 := HX559_3.out
       (try simp only [add_plain] at hX50)
       (try simp only [Nat.add_zero] at hv50)
       replace hv50 := Option.some.inj (hv50.symm.trans hX50)
       subst hv50
       clear hX50 hcc50 hcl50
       have UU50 := a0_ (show Kd.R Kd.string 9 _ w.heap.size oki50 (.slice A559_3 ((rd_T83 x4_2 (ji37)).f3).length c559_3) ((rd_T83 x4_2 (ji37)).f3) from ge50_3)
       have HH50 := a0_ hH50
       have HN50 := a0_ (Kd.S_reads' HO_4.out).1
       clear hH50 ge50_3
       refine stH_ 14 [13] (cb_ BK547.out (e4_ hx559_0 hx559_1 hx559_2 hx559_3)) (fun hHeld => ?_); refine with_tabW impl_SetsOf.tab13 impl_SetsOf.bits13 (fun HT_ HW_ => ?_)
       generalize w48.drew = w49 at HO_4 HO_19 HL556_3 HL557_3 BK547 HR556_3 HR557_3 HB GG50 HH50 HL559_3 HR559_3 HX559_3 UU50 hx556_0 hx556_1 hx556_2 hx556_3 hx557_0 hx557_1 hx557_2 hx557_3 hx559_0 hx559_1 hx559_2 hx559_3 hHeld ⊢
       refine p_ 0 80 ?_
       refine p_ 1 81 ?_
       refine p_ 2 82 ?_
       refine p_ 3 83 ?_
       refine p_ 4 84 ?_
       refine p_ 5 85 ?_
       refine p_ 7 87 ?_
       refine t_ 6 86 ?_
       refine t_ 8 88 ?_
       refine oneS_ 9 (some 89) (fun K hK => ?_)
       refine value_ (w1 := ?_) (v := ?_) (by rfl) rfl ?_ ?_
       rotate_left 2
       · go_simp
         constructor
         · rfl
         · rfl
       refine hK.out _ _ ⟨(blk_cell (blk_alloc BK547.out _) 0).trans rfl, (blk_cell (blk_alloc BK547.out _) 1).trans rfl, (blk_cell (blk_alloc BK547.out _) 2).trans rfl, (blk_cell (blk_alloc BK547.out _) 3).trans rfl, (World.cell?_alloc_lt _ _ _ (World.block_lt_of_cell? _ _ (hHeld.2.2.2.2.1))).trans (hHeld.2.2.2.2.1), (World.cell?_alloc_lt _ _ _ (World.block_lt_of_cell? _ _ (hHeld.2.2.2.2.2.1))).trans (hHeld.2.2.2.2.2.1), (World.cell?_alloc_lt _ _ _ (World.block_lt_of_cell? _ _ (hHeld.2.2.2.2.2.2.1))).trans (hHeld.2.2.2.2.2.2.1), (World.cell?_alloc_lt _ _ _ (World.block_lt_of_cell? _ _ (hHeld.2.2.2.2.2.2.2))).trans (hHeld.2.2.2.2.2.2.2)⟩ (fun hHeld => ?_)
       clear hK K
       refine normS_ ?_
       refine oneS_ 10 (some 90) (fun K hK => ?_)
       refine Kd.R_append_step Kd.string (w0 := w) w.heap.size (by rfl) (.tmp 86) (.tmp 89) 78 9 (.string ⟨#[]⟩) 16 rfl Tryz.underlying78 info9 rfl (by decide) (by omega) (.slice A559_3 ((rd_T83 x4_2 (ji37)).f3).length c559_3) ((rd_T83 x4_2 (ji37)).f3) ((rd_T45 t543 x21_2).f3) [.string ((rd_T45 t543 x21_2).f3)] (fun k_ => oki50 k_ ∨ ((fun _ => True)) k_ ∧ w49.heap.size ≤ k_) (fun _ => False) rfl rfl ?aP (fun _ hk => hk.elim) ?aF ?aO ?aB ?aS ?aL ?_
       (case aP => exact rfl)
       (case aB => exact bq1_)
       (case aF => exact (fun k_ hk => .inr ⟨trivial, hk⟩))
       (case aO => exact (kR_ (Kd.R_mono UU50.out (fun _ hk => .inl hk))))
       (case aS => exact (below_size bq1_))
       (case aL => have := LMc45.out; omega)
       intro v561 w51 ho hb hg hat
       (first | have HS4_ := cg_ hg (hHeld.2.2.2.2.1) (by first | exact (fun e_ => ((HL559_3.out.1 _ e_.symm).2) rfl) | (rw [add_block]; exact (fun e_ => ((HL559_3.out.1 _ e_.symm).2) rfl))) | have HS4_ := cg_ hg (cell_unalloc (hHeld.2.2.2.2.1) (by first | (rw [add_block]; exact Kd.S_lt HO_4.out _ rfl) | (show (Addr.add _ _).block < _; rw [add_block]; exact Kd.S_lt HO_4.out _ rfl) | exact Kd.S_lt HO_4.out _ rfl)) (by first | exact (fun e_ => ((HL559_3.out.1 _ e_.symm).2) rfl) | (rw [add_block]; exact (fun e_ => ((HL559_3.out.1 _ e_.symm).2) rfl))))
       (first | have HS5_ := cg_ hg (hHeld.2.2.2.2.2.1) (by first | exact (fun e_ => ((HL559_3.out.1 _ e_.symm).2) rfl) | (rw [add_block]; exact (fun e_ => ((HL559_3.out.1 _ e_.symm).2) rfl))) | have HS5_ := cg_ hg (cell_unalloc (hHeld.2.2.2.2.2.1) (by first | (rw [add_block]; exact Kd.S_lt HO_4.out _ rfl) | (show (Addr.add _ _).block < _; rw [add_block]; exact Kd.S_lt HO_4.out _ rfl) | exact Kd.S_lt HO_4.out _ rfl)) (by first | exact (fun e_ => ((HL559_3.out.1 _ e_.symm).2) rfl) | (rw [add_block]; exact (fun e_ => ((HL559_3.out.1 _ e_.symm).2) rfl))))
       (first | have HS6_ := cg_ hg (hHeld.2.2.2.2.2.2.1) (by first | exact (fun e_ => ((HL559_3.out.1 _ e_.symm).2) rfl) | (rw [add_block]; exact (fun e_ => ((HL559_3.out.1 _ e_.symm).2) rfl))) | have HS6_ := cg_ hg (cell_unalloc (hHeld.2.2.2.2.2.2.1) (by first | (rw [add_block]; exact Kd.S_lt HO_4.out _ rfl) | (show (Addr.add _ _).block < _; rw [add_block]; exact Kd.S_lt HO_4.out _ rfl) | exact Kd.S_lt HO_4.out _ rfl)) (by first | exact (fun e_ => ((HL559_3.out.1 _ e_.symm).2) rfl) | (rw [add_block]; exact (fun e_ => ((HL559_3.out.1 _ e_.symm).2) rfl))))
       (first | have HS7_ := cg_ hg (hHeld.2.2.2.2.2.2.2) (by first | exact (fun e_ => ((HL559_3.out.1 _ e_.symm).2) rfl) | (rw [add_block]; exact (fun e_ => ((HL559_3.out.1 _ e_.symm).2) rfl))) | have HS7_ := cg_ hg (cell_unalloc (hHeld.2.2.2.2.2.2.2) (by first | (rw [add_block]; exact Kd.S_lt HO_4.out _ rfl) | (show (Addr.add _ _).block < _; rw [add_block]; exact Kd.S_lt HO_4.out _ rfl) | exact Kd.S_lt HO_4.out _ rfl)) (by first | exact (fun e_ => ((HL559_3.out.1 _ e_.symm).2) rfl) | (rw [add_block]; exact (fun e_ => ((HL559_3.out.1 _ e_.symm).2) rfl))))
       rw [← Ny560.out] at ho
       have n0_ := a0_ (Kd.R_over' (v := (.slice A559_3 ((rd_T83 x4_2 (ji37)).f3).length c559_3)) (kR_ HO_19.out) (Kd.R_typed HL559_3.out) (by decide) hg)
       have n1_ := a0_ (blk_grown (g := gb547) (o := .cells #[.string ((rd_T45 t543 x21_2).f0), .int .i64 ((rd_T45 t543 x21_2).f1), .int .i64 ((rd_T45 t543 x21_2).f2), .string ((rd_T45 t543 x21_2).f3)] 45 (0, 0)) (kB_ BK547.out) hg (Kd.R_ne HL559_3.out BK547.out (by decide)))
       have n2_ := a0_ (hb)
       have n3_ := a0_ (Kd.H_grown (Kd.H_widen (by repeat (first | exact HH50.out | refine Kd.H_alloc ?_ _ | refine Kd.H_drewN ?_ _ | refine Kd.H_drew ?_))) hg (fun k_ e_ => .inl (UU50.out.1 k_ e_)))
       have n4_ := a0_ (ho)
       clear HO_19
       clear BK547
       clear HB
       clear HH50
       clear HO_4
       clear UU50
       clear HL556_3
       clear HL557_3
       clear HL559_3
       have HO_19 := n0_
       have BK547 := n1_
       have HB := n2_
       have HH50 := n3_
       have HO562 := n4_
       clear n0_ n1_ n2_ n3_ n4_
       clear ho hb hg hat
       have p46 := t0_ ((ji37))
       have q46 := tl_ (((ji37) : Int)) ((x4_2.length : Int))
       obtain ⟨Ao54, co54, eo54⟩ := Kd.R_slice HO562.out
       (first | subst eo54 | (injection eo54 with f1_ f2_ f3_; have f4_ := f1_.symm; have f5_ := f3_.symm; clear f1_ f2_ f3_; subst f4_; subst f5_))
       obtain ⟨_, _, hraw52, _, _, hcc52, _⟩ := Kd.H_raw HH50.out (dec_) (by have h_ : ((ji37) : Int) < ((x4_2.length : Int) : Int) := dec_; first | exact h_ | (have e_ := (HN50.out); omega) | simpa using h_)
       obtain ⟨_, hfr52⟩ := Kd.H_at HH50.out (dec_) (by have h_ : ((ji37) : Int) < ((x4_2.length : Int) : Int) := dec_; first | exact h_ | (have e_ := (HN50.out); omega) | simpa using h_)
       have hx52_0 := hcc52 3 _ rfl
       have hf52_0 := hfr52 3
       (try rw [show (k83).sz = 4 from rfl] at hx52_0)
       (try rw [show (k83).sz = 4 from rfl] at hf52_0)
       have HP52 := Kd.S_seg0 HH50.out (dec_) (by have h_ : ((ji37) : Int) < ((x4_2.length : Int) : Int) := dec_; first | exact h_ | (have e_ := (HN50.out); omega) | simpa using h_) (seg := [.slice Ao54 y560.length co54]) (j := 3) (show 4 ≤ 4 from by decide) (x' := (⟨(rd_T83 x4_2 (ji37)).f0, (rd_T83 x4_2 (ji37)).f1, (rd_T83 x4_2 (ji37)).f2, y560⟩ : S83)) (k83_mkM _ _ _ (⟨(rd_T83 x4_2 (ji37)).f0, (rd_T83 x4_2 (ji37)).f1, (rd_T83 x4_2 (ji37)).f2, y560⟩ : S83) HO562.out) (fun _ hk => hk)
       clear hcc52 hfr52
       have HNB547_go50 := a0_ (show gb547 ≠ go50 from by have h_ := Kd.R_ne hraw52 BK547.out (by decide); intro e_; exact h_ (by rw [e_]; rfl))
       have HS52 := HP52.1
       rw [← Ny563.out] at HS52
       have HQ52 := a0_ HS52
       obtain ⟨_, hgg52⟩ := Kd.R_typed hraw52 go50 rfl
       have GG52_ := a0_ hgg52
       clear HP52 HS52 hgg52
       refine hK.out _ _ (cb_ BK547.out (c1_ HS4_ (c1_ HS5_ (c1_ HS6_ (e1_ HS7_))))).out (fun hHeld => ?_)
       clear hK K
       refine normS_ ?_
       refine p_ 11 91 ?_
       refine p_ 12 92 ?_
       refine last_ (i := 13) (N := none) #[true, true, true, true, true, true, true, true, true, true, true, true, true, true] rfl rfl (one_of HT_.out (by kernel_rfl)) (by decide) (fun K hK => ?_)
       refine skip_ (w1 := ?_) (by rfl) rfl ?_ ?_
       rotate_left
       · go_simp
         rfl
       refine hK.out _ _ ?_
       clear hK K
       refine done_ (done_of HT_.out (by kernel_rfl)) ?_
       try go_wp2
       go_roundg kj14
       case measure => have := HJ1.out; have := HK2.out; have := HJ14.out; omega
       case rel => exact ⟨(y563), (wrap64 (x21_2 + 1)), rs_, H', jn_ HJ1 HK2 HJ14, ⟨kS_ HQ52.out⟩, ⟨by (with_reducible repeat (first | apply Kd.R_alloc | apply Kd.R_drewN | apply Kd.R_drew)); exact Kd.R_mono (Kd.R_far (p := ⟨go50, ((ji37) : Int).toNat * 4 + 3, none⟩) (Kd.R_types HO_19.out GG52_.out (by decide)) (fun _ hk => hk.2) (.slice Ao54 y560.length co54)) (fun _ hk => trivial)⟩, ⟨bq2_⟩⟩
end Go.Proofs.YtiegkjimpclmaaaGreatDoor.P
