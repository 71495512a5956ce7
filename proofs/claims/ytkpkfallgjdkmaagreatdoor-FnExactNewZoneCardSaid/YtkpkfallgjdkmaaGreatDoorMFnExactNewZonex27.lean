/- FnExactNewZone: part 28 of 29 of my texts for this claim, joined; the theorem stands in the last. Conditions: none beyond the statement's. -/
import Derived.Test.YtkpkfallgjdkmaaGreatDoorMFnExactNewZonex4
import Derived.Test.YtkpkfallgjdkmaaGreatDoorMFnExactNewZonex14
import Derived.Test.YtkpkfallgjdkmaaGreatDoorMFnExactNewZonex26
import Derived.Test.YtkpkfallgjdkmaaGreatDoorMFnExactNewZonex12
import Derived.Test.YtkpkfallgjdkmaaGreatDoorMFnExactNewZonex13
namespace Go.Proofs.YtkpkfallgjdkmaaGreatDoor.P
open Go.RowKit Go.Proofs.YtkpkfallgjdkmaaGreatDoorW.PrintWords Go.Proofs.YtkpkfallgjdkmaaGreatDoorW.PrintLast Go.Proofs.YtkpkfallgjdkmaaGreatDoorW.PrintMore
attribute [local go_sem] max2_int min2_int max_two min_two max_three min_three max_four min_four
set_option linter.unusedVariables false
set_option linter.unusedSimpArgs false
mutual
def laws_FnExactNewZone.j0 : Nat → ByteArray → Bool → Bool → ByteArray → Int → List (S72) → ByteArray → Int → List (S72) → Option (Bool)
 | 0, _, _, _, _, _, _, _, _, _ => none
 | k + 1, x0, x4, x32, x645000, x645001, x645002, x652000, x652001, x652002 => if x32 = true then (some false) else ((laws_markZone.f k x652000 x652001 x652002 1).bind fun bt653 => ((laws_heldZone.f k x652000 x652001 bt653.2 1).bind fun t655 => (if t655 < 0 then (some false) else (if t655 = bt653.1 then ((impl_NewZone.f k x0).bind fun bt656 => ((laws_eqZone.f k bt656.1 bt656.2.1 bt656.2.2.1 x645000 x645001 x645002).bind fun t663 => (if t663 = true then (laws_FnExactNewZone.j1 k bt653.1 (bt656.2.2.2 != x4) x652000 x652001 bt653.2) else (laws_FnExactNewZone.j1 k bt653.1 true x652000 x652001 bt653.2)))) else (some false)))))
def laws_FnExactNewZone.j1 : Nat → Int → Bool → ByteArray → Int → List (S72) → Option (Bool)
 | 0, _, _, _, _, _ => none
 | k + 1, x7, x57, x652000, x652001, x652002 => if x57 = true then (some false) else ((laws_heldZone.f k x652000 x652001 x652002 1).bind fun t664 => (if t664 < 0 then (some false) else (if t664 = x7 then (some true) else (some false))))
end
def laws_FnExactNewZone.f (k : Nat) (a0 : ByteArray) : Option (Bool) := if (a0.size : Int) > 1048576 then (some true) else ((spec_NewZone.f k a0).bind fun bt638 => ((impl_NewZone.f k a0).bind fun bt645 => ((laws_eqZone.f k bt645.1 bt645.2.1 bt645.2.2.1 bt638.1 bt638.2.1 bt638.2.2.1).bind fun t652 => (if t652 = true then (laws_FnExactNewZone.j0 k a0 bt638.2.2.2 (bt645.2.2.2 != bt638.2.2.2) bt638.1 bt638.2.1 bt638.2.2.1 bt645.1 bt645.2.1 bt645.2.2.1) else (laws_FnExactNewZone.j0 k a0 bt638.2.2.2 true bt638.1 bt638.2.1 bt638.2.2.1 bt645.1 bt645.2.1 bt645.2.2.1)))))
set_option maxHeartbeats 8000000 in
set_option maxRecDepth 100000 in
theorem laws_FnExactNewZone.calls (k : Nat) (a0 : ByteArray) (r : Bool) (w : World) (h : laws_FnExactNewZone.f k a0 = some r) (hv_ : Vars w := by exact vv_) :
 Calls Tryz.prog 5 #[.string a0] w fun e w' => e = .returned (.bool r) ∧ Below w.heap.size w w' := by
 have HV_ := a0_ hv_
 clear hv_
 have hu42 := Tryz.underlying42
 have HB := a0_ (Below.refl w.heap.size w)
 have H : (if (a0.size : Int) > 1048576 then (some true) else ((spec_NewZone.f k a0).bind fun bt638 => ((impl_NewZone.f k a0).bind fun bt645 => ((laws_eqZone.f k bt645.1 bt645.2.1 bt645.2.2.1 bt638.1 bt638.2.1 bt638.2.2.1).bind fun t652 => (if t652 = true then (laws_FnExactNewZone.j0 k a0 bt638.2.2.2 (bt645.2.2.2 != bt638.2.2.2) bt638.1 bt638.2.1 bt638.2.2.1 bt645.1 bt645.2.1 bt645.2.2.1) else (laws_FnExactNewZone.j0 k a0 bt638.2.2.2 true bt638.1 bt638.2.1 bt638.2.2.1 bt645.1 bt645.2.1 bt645.2.2.1)))))) = some r := h
 clear h
 by_cases c2 : (a0.size : Int) > 1048576
 case pos =>
  rw [if_pos c2] at H
  have c2b0 := decide_eq_true c2
  have c2b1 : decide (1048576 < a0.size) = true := decide_eq_true (by omega)
  clear c2
  obtain rfl := Option.some.inj H
  go_enter Tryz.func5, Tryz.ntmps5
  go_wp2
  go_ret
  exact ⟨rr_, bq0_⟩
 rw [if_neg c2] at H
 have c2b0 := decide_eq_false c2
 have c2b1 : decide (1048576 < a0.size) = false := decide_eq_false (by omega)
 clear c2
 obtain ⟨⟨t638, t639, t640, t643⟩, A30, H⟩ := Option.bind_eq_some_iff.mp H
 have A3 := a0_ A30
 clear A30
 obtain ⟨⟨t645, t646, t647, t650⟩, A40, H⟩ := Option.bind_eq_some_iff.mp H
 have A4 := a0_ A40
 clear A40
 have HC5 := a0_ H
 clear H
 go_enter Tryz.func5, Tryz.ntmps5
 go_upto_region 5 with (first | ((with_reducible refine gate_callee (f := 25) rfl ?_); refine goesL_ (some 16) rfl rfl Tryz.func25 (by kernel_rfl) rfl #[.string a0] rfl argsS_ ?_; (with_reducible refine (spec_NewZone.calls k a0 t638 t639 t640 t643 _ A3.out).mono ?_); rintro e w6 ⟨v641, rfl, ho0, hb⟩; refine ⟨_, rfl, ?_⟩; have HO642 := a0_ (Kd.R_lower ho0 (below_size bq0_)); replace HB := a0_ (below_step bq0_ hb); (try clear hb); (try clear hb2); (try clear hk); (try clear hi); (try clear ho0)) | ((with_reducible refine gate_dst (N := 3) rfl ?_); refine boxS_ 3 #[.string (⟨#[]⟩ : ByteArray), .int .i64 0, .slice none 0 0] 42 (fun gb644 hg w7 hbox hb => ?_); have n0_ := a0_ (Kd.R_below (kR_ HO642.out) hb); have n1_ := a0_ (below_step bq0_ hb); have n2_ := a0_ (hbox); have n3_ := a0_ (gw_ hg : w.heap.size ≤ gb644); have n4_ := n3_; clear HO642; clear HB; have HO642 := n0_; have HB := n1_; have BK644 := n2_; have GW644 := n3_; have GE644 := n4_; clear n0_ n1_ n2_ n3_ n4_; clear hb hbox hg; obtain ⟨z8_0, z8_1, z8_2, q8_0, q8_1, q8_2⟩ := bk3_ BK644.out; obtain ⟨Ao9, co9, eo9⟩ := Kd.R_slice HO642.out; subst eo9) | ((with_reducible refine gate_callee (f := 26) rfl ?_); refine goesL_ (some 21) rfl rfl Tryz.func26 (by kernel_rfl) rfl #[.string a0] rfl argsS_ ?_; (with_reducible refine (impl_NewZone.calls k a0 t645 t646 t647 t650 _ A4.out).mono ?_); rintro e w10 ⟨v648, rfl, ho0, hb⟩; refine ⟨_, rfl, ?_⟩; have n0_ := a0_ (Kd.R_elder' (kR_ (farR3_ HO642.out BK644.out)) (Kd.R_base ho0) hb); have n1_ := a0_ (Kd.R_lower (Kd.R_new' ho0 (Kd.R_lt (kR_ (farR3_ HO642.out BK644.out)))) (below_size bq1_)); have n2_ := a0_ (blk_below (g := gb644) (o := .cells #[.string t638, .int .i64 t639, .slice Ao9 t640.length co9] 42 (0, 0)) (put3_ BK644.out) hb); have n3_ := a0_ (below_step bq1_ hb); clear HO642; clear BK644; clear HB; have HO642 := n0_; have HO649 := n1_; have BK644 := n2_; have HB := n3_; clear n0_ n1_ n2_ n3_; (try clear hb); (try clear hb2); (try clear hk); (try clear hi); (try clear ho0)) | ((with_reducible refine gate_dst (N := 5) rfl ?_); refine boxS_ 5 #[.string (⟨#[]⟩ : ByteArray), .int .i64 0, .slice none 0 0] 42 (fun gb651 hg w11 hbox hb => ?_); have n0_ := a0_ (Kd.R_below (kR_ HO642.out) hb); have n1_ := a0_ (Kd.R_below (kR_ HO649.out) hb); have n2_ := a0_ (bkB_ BK644 hb); have n3_ := a0_ (below_step bq1_ hb); have n4_ := a0_ (hbox); have n5_ := a0_ (gw_ hg (below_size bq1_) : w.heap.size ≤ gb651); have n6_ := n5_; have n7_ := a0_ ((by rw [hg]; exact Nat.ne_of_lt (blk_lt (g := gb644) (o := .cells #[.string t638, .int .i64 t639, .slice Ao9 t640.length co9] 42 (0, 0)) (kB_ BK644.out)) : gb644 ≠ gb651)); have n8_ := a0_ ((by rw [hg]; exact Nat.ne_of_gt (blk_lt (g := gb644) (o := .cells #[.string t638, .int .i64 t639, .slice Ao9 t640.length co9] 42 (0, 0)) (kB_ BK644.out)) : gb651 ≠ gb644)); clear HO642; clear HO649; clear BK644; clear HB; have HO642 := n0_; have HO649 := n1_; have BK644 := n2_; have HB := n3_; have BK651 := n4_; have GW651 := n5_; have GE651 := n6_; have NB644_651 := n7_; have NB651_644 := n8_; clear n0_ n1_ n2_ n3_ n4_ n5_ n6_ n7_ n8_; clear hb hbox hg; have hnb12 := NB651_644.out; have hnc12 := NB644_651.out; obtain ⟨z13_0, z13_1, z13_2, q13_0, q13_1, q13_2⟩ := bk3_ BK651.out; obtain ⟨Ao14, co14, eo14⟩ := Kd.R_slice HO649.out; subst eo14))
 (try simp only [Act.put, List.setIfInBounds_toArray, List.set_cons_zero, List.set_cons_succ])
 go_cut [32] (fun v32 wc => ∃ (kq : Nat) (x32_4 : Bool), v32 = .bool x32_4 ∧ Aside0 (laws_FnExactNewZone.j0 kq a0 t643 x32_4 t638 t639 t640 t645 t646 t647 = some r) ∧ Aside0 (kq ≤ k) ∧ Aside0 (Kd.R k72 72 wc w.heap.size (fun k_ => some k_ ≠ ((.slice Ao14 t647.length co14) : Value).ownBlock) (.slice Ao9 t640.length co9) t640) ∧ Aside0 (Kd.R k72 72 wc w.heap.size (fun k_ => some k_ ≠ ((.slice Ao9 t640.length co9) : Value).ownBlock) (.slice Ao14 t647.length co14) t647) ∧ Aside0 (wc.heap[gb644]? = some (.cells #[.string t638, .int .i64 t639, (.slice Ao9 t640.length co9)] 42 (0, 0))) ∧ Aside0 (wc.heap[gb651]? = some (.cells #[.string t645, .int .i64 t646, (.slice Ao14 t647.length co14)] 42 (0, 0))) ∧ Aside0 (Below w.heap.size w wc))
 case first =>
  have H := HC5.out
  clear HC5
  obtain ⟨t652, A150, H⟩ := Option.bind_eq_some_iff.mp H
  have A15 := a0_ A150
  clear A150
  by_cases c16 : t652 = true
  case pos =>
   subst c16
   rw [if_pos rfl] at H
   have H' := a0_ H
   clear H
   have hnb17 := NB651_644.out
   have hnc17 := NB644_651.out
   have z18_0 : w11.cell? ⟨gb651, 0, none⟩ = some (.string (⟨#[]⟩ : ByteArray)) := (blk_cell BK651.out 0).trans rfl
   have z18_1 : w11.cell? ⟨gb651, 1, none⟩ = some (.int .i64 0) := (blk_cell BK651.out 1).trans rfl
   have z18_2 : w11.cell? ⟨gb651, 2, none⟩ = some (.slice none 0 0) := (blk_cell BK651.out 2).trans rfl
   have q18_0 := blk_frozen BK651.out 0
   have q18_1 := blk_frozen BK651.out 1
   have q18_2 := blk_frozen BK651.out 2
   have z19_0 : w11.cell? ⟨gb644, 0, none⟩ = some (.string t638) := (blk_cell BK644.out 0).trans rfl
   have z19_1 : w11.cell? ⟨gb644, 1, none⟩ = some (.int .i64 t639) := (blk_cell BK644.out 1).trans rfl
   have z19_2 : w11.cell? ⟨gb644, 2, none⟩ = some (.slice Ao9 t640.length co9) := (blk_cell BK644.out 2).trans rfl
   have q19_0 := blk_frozen BK644.out 0
   have q19_1 := blk_frozen BK644.out 1
   have q19_2 := blk_frozen BK644.out 2
   go_wp2_with (first | ((with_reducible refine gate_callee (f := 27) rfl ?_); refine goesL_ (some 26) rfl rfl Tryz.func27 (by kernel_rfl) rfl #[.agg #[.string t645, .int .i64 t646, .slice Ao14 t647.length co14], .agg #[.string t638, .int .i64 t639, .slice Ao9 t640.length co9]] rfl argsS_ ?_; (with_reducible refine (laws_eqZone.calls k t645 t646 _ _ t647 t638 t639 _ _ t640 true _ ?side1 ?side2 ?side3 ?side4 A15.out).mono ?_); (case side1 => refine (Kd.R_reads' (e := 72) (base := w.heap.size) (ok := fun k_ => (True ∧ nw_ k_ Ao9 t640.length co9)) (n := t647.length) (c := co14) ?_).2.2; exact (kR_ (farR3_ HO649.out BK651.out))); (case side2 => exact (Kd.R_reads' HO649.out).2.1); (case side3 => refine (Kd.R_reads' (e := 72) (base := w.heap.size) (ok := fun k_ => (True ∧ nw_ k_ Ao14 t647.length co14)) (n := t640.length) (c := co9) ?_).2.2; exact (kR_ (farR3_ HO642.out BK651.out))); (case side4 => exact (Kd.R_reads' HO642.out).2.1); rintro e w20 ⟨rfl, hb⟩; refine ⟨_, rfl, ?_⟩; replace HO642 := a0_ (Kd.R_below (kR_ (farR3_ HO642.out BK651.out)) hb); replace HO649 := a0_ (Kd.R_below (kR_ (farR3_ HO649.out BK651.out)) hb); replace BK644 := a0_ (blk_below (g := gb644) (o := .cells #[.string t638, .int .i64 t639, .slice Ao9 t640.length co9] 42 (0, 0)) (bfar3_ NB644_651.out BK644.out) hb); replace BK651 := a0_ (blk_below (g := gb651) (o := .cells #[.string t645, .int .i64 t646, .slice Ao14 t647.length co14] 42 (0, 0)) (put3_ BK651.out) hb); replace HB := a0_ (below_step bq1_ hb); (try clear hb); (try clear hb2); (try clear hk); (try clear hi)))
   go_meet
   case rel => exact ⟨_, ((t650 != t643)), rs_, H', ⟨by first | omega | exact Nat.le_refl _⟩, ⟨by (with_reducible repeat (first | apply Kd.R_alloc | apply Kd.R_drewN | apply Kd.R_drew)); exact Kd.R_mono HO642.out (fun _ hk => hk.2)⟩, ⟨by (with_reducible repeat (first | apply Kd.R_alloc | apply Kd.R_drewN | apply Kd.R_drew)); exact Kd.R_mono HO649.out (fun _ hk => hk.2)⟩, ⟨by (with_reducible repeat (first | refine blk_drewN ?_ _ | refine blk_drew ?_ | refine blk_alloc ?_ _)); exact BK644.out⟩, ⟨by (with_reducible repeat (first | refine blk_drewN ?_ _ | refine blk_drew ?_ | refine blk_alloc ?_ _)); exact BK651.out⟩, ⟨bq1_⟩⟩
  replace c16 := Bool.eq_false_iff.mpr c16
  subst c16
  rw [if_neg (show ¬ (false = true) by decide)] at H
  have H' := a0_ H
  clear H
  have hnb21 := NB651_644.out
  have hnc21 := NB644_651.out
  have z22_0 : w11.cell? ⟨gb651, 0, none⟩ = some (.string (⟨#[]⟩ : ByteArray)) := (blk_cell BK651.out 0).trans rfl
  have z22_1 : w11.cell? ⟨gb651, 1, none⟩ = some (.int .i64 0) := (blk_cell BK651.out 1).trans rfl
  have z22_2 : w11.cell? ⟨gb651, 2, none⟩ = some (.slice none 0 0) := (blk_cell BK651.out 2).trans rfl
  have q22_0 := blk_frozen BK651.out 0
  have q22_1 := blk_frozen BK651.out 1
  have q22_2 := blk_frozen BK651.out 2
  have z23_0 : w11.cell? ⟨gb644, 0, none⟩ = some (.string t638) := (blk_cell BK644.out 0).trans rfl
  have z23_1 : w11.cell? ⟨gb644, 1, none⟩ = some (.int .i64 t639) := (blk_cell BK644.out 1).trans rfl
  have z23_2 : w11.cell? ⟨gb644, 2, none⟩ = some (.slice Ao9 t640.length co9) := (blk_cell BK644.out 2).trans rfl
  have q23_0 := blk_frozen BK644.out 0
  have q23_1 := blk_frozen BK644.out 1
  have q23_2 := blk_frozen BK644.out 2
  go_wp2_with (first | ((with_reducible refine gate_callee (f := 27) rfl ?_); refine goesL_ (some 26) rfl rfl Tryz.func27 (by kernel_rfl) rfl #[.agg #[.string t645, .int .i64 t646, .slice Ao14 t647.length co14], .agg #[.string t638, .int .i64 t639, .slice Ao9 t640.length co9]] rfl argsS_ ?_; (with_reducible refine (laws_eqZone.calls k t645 t646 _ _ t647 t638 t639 _ _ t640 false _ ?side1 ?side2 ?side3 ?side4 A15.out).mono ?_); (case side1 => refine (Kd.R_reads' (e := 72) (base := w.heap.size) (ok := fun k_ => (True ∧ nw_ k_ Ao9 t640.length co9)) (n := t647.length) (c := co14) ?_).2.2; exact (kR_ (farR3_ HO649.out BK651.out))); (case side2 => exact (Kd.R_reads' HO649.out).2.1); (case side3 => refine (Kd.R_reads' (e := 72) (base := w.heap.size) (ok := fun k_ => (True ∧ nw_ k_ Ao14 t647.length co14)) (n := t640.length) (c := co9) ?_).2.2; exact (kR_ (farR3_ HO642.out BK651.out))); (case side4 => exact (Kd.R_reads' HO642.out).2.1); rintro e w24 ⟨rfl, hb⟩; refine ⟨_, rfl, ?_⟩; replace HO642 := a0_ (Kd.R_below (kR_ (farR3_ HO642.out BK651.out)) hb); replace HO649 := a0_ (Kd.R_below (kR_ (farR3_ HO649.out BK651.out)) hb); replace BK644 := a0_ (blk_below (g := gb644) (o := .cells #[.string t638, .int .i64 t639, .slice Ao9 t640.length co9] 42 (0, 0)) (bfar3_ NB644_651.out BK644.out) hb); replace BK651 := a0_ (blk_below (g := gb651) (o := .cells #[.string t645, .int .i64 t646, .slice Ao14 t647.length co14] 42 (0, 0)) (put3_ BK651.out) hb); replace HB := a0_ (below_step bq1_ hb); (try clear hb); (try clear hb2); (try clear hk); (try clear hi)))
  go_meet
  case rel => exact ⟨_, (true), rs_, H', ⟨by first | omega | exact Nat.le_refl _⟩, ⟨by (with_reducible repeat (first | apply Kd.R_alloc | apply Kd.R_drewN | apply Kd.R_drew)); exact Kd.R_mono HO642.out (fun _ hk => hk.2)⟩, ⟨by (with_reducible repeat (first | apply Kd.R_alloc | apply Kd.R_drewN | apply Kd.R_drew)); exact Kd.R_mono HO649.out (fun _ hk => hk.2)⟩, ⟨by (with_reducible repeat (first | refine blk_drewN ?_ _ | refine blk_drew ?_ | refine blk_alloc ?_ _)); exact BK644.out⟩, ⟨by (with_reducible repeat (first | refine blk_drewN ?_ _ | refine blk_drew ?_ | refine blk_alloc ?_ _)); exact BK651.out⟩, ⟨bq1_⟩⟩
 case rest =>
  clear HC5
  try clear c1
  try clear c2
  try clear c2b0
  try clear c2b1
  try clear p2
  try clear c5
  try clear c12
  try clear c16
  try clear c17
  try clear c21
  try clear z13_0 z13_1 z13_2
  try clear z18_0 z18_1 z18_2
  try clear z19_0 z19_1 z19_2
  try clear z22_0 z22_1 z22_2
  try clear z23_0 z23_1 z23_2
  try clear z8_0 z8_1 z8_2
  try clear q13_0 q13_1 q13_2
  try clear q18_0 q18_1 q18_2
  try clear q19_0 q19_1 q19_2
  try clear q22_0 q22_1 q22_2
  try clear q23_0 q23_1 q23_2
  try clear q8_0 q8_1 q8_2
  obtain ⟨kq, x32_4, rfl, HA, HJ4, HO_645002, HO_652002, BK644, BK651, HB⟩ := hcut
  cases kq with
  | zero => exact absurd HA.out (by simp [laws_FnExactNewZone.j0])
  | succ kj4 =>
   have H := HA.out
   clear HA
   simp only [laws_FnExactNewZone.j0] at H
   by_cases c25 : x32_4 = true
   case pos =>
    subst c25
    rw [if_pos rfl] at H
    obtain rfl := Option.some.inj H
    go_wp2
    go_ret
    exact ⟨rr_, bq1_⟩
   replace c25 := Bool.eq_false_iff.mpr c25
   subst c25
   rw [if_neg (show ¬ (false = true) by decide)] at H
   obtain ⟨⟨t653, t654⟩, A260, H⟩ := Option.bind_eq_some_iff.mp H
   have A26 := a0_ A260
   clear A260
   obtain ⟨t655, A270, H⟩ := Option.bind_eq_some_iff.mp H
   have A27 := a0_ A270
   clear A270
   by_cases c28 : t655 < 0
   case pos =>
    rw [if_pos c28] at H
    have c28b0 := decide_eq_true c28
    clear c28
    obtain rfl := Option.some.inj H
    have hnb29 := NB651_644.out
    have hnc29 := NB644_651.out
    have z30_0 : wc.cell? ⟨gb651, 0, none⟩ = some (.string t645) := (blk_cell BK651.out 0).trans rfl
    have z30_1 : wc.cell? ⟨gb651, 1, none⟩ = some (.int .i64 t646) := (blk_cell BK651.out 1).trans rfl
    have z30_2 : wc.cell? ⟨gb651, 2, none⟩ = some (.slice Ao14 t647.length co14) := (blk_cell BK651.out 2).trans rfl
    have q30_0 := blk_frozen BK651.out 0
    have q30_1 := blk_frozen BK651.out 1
    have q30_2 := blk_frozen BK651.out 2
    go_wp2_with (first | ((with_reducible refine gate_callee (f := 28) rfl ?_); refine goesL_ (some 35) rfl rfl Tryz.func28 (by kernel_rfl) rfl #[.agg #[.string t645, .int .i64 t646, .slice Ao14 t647.length co14], .int .i64 1] rfl argsS_ ?_; (with_reducible refine (laws_markZone.calls kj4 t645 t646 (fun k_ => some k_ = (.slice Ao14 t647.length co14 : Value).ownBlock) (.slice Ao14 t647.length co14) t647 1 t653 t654 w _ ?side1 ?side2 A26.out).mono ?_); (case side1 => repeat (first | (with_reducible first | exact HB.out | apply below_alloc | apply pw_below_drewN | apply below_drew1 | refine below_set ?_ GE644.out | refine below_set ?_ GE651.out) | exact HB.out)); (case side2 => exact Kd.R_tight rfl HO_652002.out); rintro e w31 ⟨rfl, hy0, hb, hkp⟩; refine ⟨_, rfl, ?_⟩; have n0_ := a0_ (Kd.R_mono (ok' := fun k_ => nw_ k_ Ao14 t647.length co14) (Kd.R_keptB (HO_645002.out) hkp (fun k_ hk_ hs_ => (hk_) hs_)) (fun k_ hk_ => hk_.1)); have n1_ := a0_ (Kd.R_reok rfl hy0 (fun k_ e_ => HO_652002.out.1 k_ e_)); have n2_ := a0_ (blk_kept (kB_ BK644.out) hkp (fun hs_ => (fun e_ => (Kd.R_ne HO_652002.out BK644.out (by decide)) e_) hs_)); have n3_ := a0_ (blk_kept (kB_ BK651.out) hkp (fun hs_ => (fun e_ => (Kd.R_ne HO_652002.out BK651.out (by decide)) e_) hs_)); have n4_ := a0_ (hb); clear HO_645002; clear HO_652002; clear BK644; clear BK651; clear HB; have HO_645002 := n0_; have HO_652002 := n1_; have BK644 := n2_; have BK651 := n3_; have HB := n4_; clear n0_ n1_ n2_ n3_ n4_; (try clear hb); (try clear hkp); (try clear hy0); obtain ⟨z32_0, z32_1, z32_2, q32_0, q32_1, q32_2⟩ := bk3_ BK651.out) | ((with_reducible refine gate_callee (f := 29) rfl ?_); refine goesL_ (some 38) rfl rfl Tryz.func29 (by kernel_rfl) rfl #[.agg #[.string t645, .int .i64 t646, .slice Ao14 t654.length co14], .int .i64 1] rfl (by (try simp only [List.map_toArray, List.map_cons, List.map_nil]); first | done | (rw [show t654.length = t647.length from (Kd.R_reads' HO_652002.out).1.symm] <;> rfl) | rfl | (simp only [List.length_drop, List.length_take]; rfl)) ?_; (with_reducible refine (laws_heldZone.calls kj4 t645 t646 _ _ t654 1 t655 _ ?side1 ?side2 A27.out).mono ?_); (case side1 => exact kD_ (Kd.R_reads' HO_652002.out).2.2); (case side2 => rw [show t654.length = t647.length from (Kd.R_reads' HO_652002.out).1.symm]; exact (Kd.R_reads' HO_652002.out).2.1); rintro e w33 ⟨rfl, hb⟩; refine ⟨_, rfl, ?_⟩; replace HO_645002 := a0_ (Kd.R_below (kR_ HO_645002.out) hb); replace HO_652002 := a0_ (Kd.R_below (kR_ HO_652002.out) hb); replace BK644 := a0_ (bkB_ BK644 hb); replace BK651 := a0_ (bkB_ BK651 hb); replace HB := a0_ (below_step bq1_ hb); (try clear hb); (try clear hb2); (try clear hk); (try clear hi)))
    go_ret
    exact ⟨rr_, bq1_⟩
   rw [if_neg c28] at H
   have c28b0 := decide_eq_false c28
   clear c28
   by_cases c34 : t655 = t653
   case neg =>
    rw [if_neg c34] at H
    have c34b0 := beq_eq_false_iff_ne.mpr c34
    have c34b1 := bne_iff_ne.mpr c34
    obtain rfl := Option.some.inj H
    have hnb78 := NB651_644.out
    have hnc78 := NB644_651.out
    have z79_0 : wc.cell? ⟨gb651, 0, none⟩ = some (.string t645) := (blk_cell BK651.out 0).trans rfl
    have z79_1 : wc.cell? ⟨gb651, 1, none⟩ = some (.int .i64 t646) := (blk_cell BK651.out 1).trans rfl
    have z79_2 : wc.cell? ⟨gb651, 2, none⟩ = some (.slice Ao14 t647.length co14) := (blk_cell BK651.out 2).trans rfl
    have q79_0 := blk_frozen BK651.out 0
    have q79_1 := blk_frozen BK651.out 1
    have q79_2 := blk_frozen BK651.out 2
    go_wp2_with (first | ((with_reducible refine gate_callee (f := 28) rfl ?_); refine goesL_ (some 35) rfl rfl Tryz.func28 (by kernel_rfl) rfl #[.agg #[.string t645, .int .i64 t646, .slice Ao14 t647.length co14], .int .i64 1] rfl argsS_ ?_; (with_reducible refine (laws_markZone.calls kj4 t645 t646 (fun k_ => some k_ = (.slice Ao14 t647.length co14 : Value).ownBlock) (.slice Ao14 t647.length co14) t647 1 t653 t654 w _ ?side1 ?side2 A26.out).mono ?_); (case side1 => repeat (first | (with_reducible first | exact HB.out | apply below_alloc | apply pw_below_drewN | apply below_drew1 | refine below_set ?_ GE644.out | refine below_set ?_ GE651.out) | exact HB.out)); (case side2 => exact Kd.R_tight rfl HO_652002.out); rintro e w80 ⟨rfl, hy0, hb, hkp⟩; refine ⟨_, rfl, ?_⟩; have n0_ := a0_ (Kd.R_mono (ok' := fun k_ => nw_ k_ Ao14 t647.length co14) (Kd.R_keptB (HO_645002.out) hkp (fun k_ hk_ hs_ => (hk_) hs_)) (fun k_ hk_ => hk_.1)); have n1_ := a0_ (Kd.R_reok rfl hy0 (fun k_ e_ => HO_652002.out.1 k_ e_)); have n2_ := a0_ (blk_kept (kB_ BK644.out) hkp (fun hs_ => (fun e_ => (Kd.R_ne HO_652002.out BK644.out (by decide)) e_) hs_)); have n3_ := a0_ (blk_kept (kB_ BK651.out) hkp (fun hs_ => (fun e_ => (Kd.R_ne HO_652002.out BK651.out (by decide)) e_) hs_)); have n4_ := a0_ (hb); clear HO_645002; clear HO_652002; clear BK644; clear BK651; clear HB; have HO_645002 := n0_; have HO_652002 := n1_; have BK644 := n2_; have BK651 := n3_; have HB := n4_; clear n0_ n1_ n2_ n3_ n4_; (try clear hb); (try clear hkp); (try clear hy0); obtain ⟨z81_0, z81_1, z81_2, q81_0, q81_1, q81_2⟩ := bk3_ BK651.out) | ((with_reducible refine gate_callee (f := 29) rfl ?_); refine goesL_ (some 38) rfl rfl Tryz.func29 (by kernel_rfl) rfl #[.agg #[.string t645, .int .i64 t646, .slice Ao14 t654.length co14], .int .i64 1] rfl (by (try simp only [List.map_toArray, List.map_cons, List.map_nil]); first | done | (rw [show t654.length = t647.length from (Kd.R_reads' HO_652002.out).1.symm] <;> rfl) | rfl | (simp only [List.length_drop, List.length_take]; rfl)) ?_; (with_reducible refine (laws_heldZone.calls kj4 t645 t646 _ _ t654 1 t655 _ ?side1 ?side2 A27.out).mono ?_); (case side1 => exact kD_ (Kd.R_reads' HO_652002.out).2.2); (case side2 => rw [show t654.length = t647.length from (Kd.R_reads' HO_652002.out).1.symm]; exact (Kd.R_reads' HO_652002.out).2.1); rintro e w82 ⟨rfl, hb⟩; refine ⟨_, rfl, ?_⟩; replace HO_645002 := a0_ (Kd.R_below (kR_ HO_645002.out) hb); replace HO_652002 := a0_ (Kd.R_below (kR_ HO_652002.out) hb); replace BK644 := a0_ (bkB_ BK644 hb); replace BK651 := a0_ (bkB_ BK651 hb); replace HB := a0_ (below_step bq1_ hb); (try clear hb); (try clear hb2); (try clear hk); (try clear hi)))
    go_ret
    exact ⟨rr_, bq1_⟩
   rw [if_pos c34] at H
   have c34b0 := beq_iff_eq.mpr c34
   have c34b1 := bne_eq_false_iff_eq.mpr c34
   clear c34
   obtain ⟨⟨t656, t657, t658, t661⟩, A350, H⟩ := Option.bind_eq_some_iff.mp H
   have A35 := a0_ A350
   clear A350
   have HC36 := a0_ H
   clear H
   have hnb37 := NB651_644.out
   have hnc37 := NB644_651.out
   have z38_0 : wc.cell? ⟨gb651, 0, none⟩ = some (.string t645) := (blk_cell BK651.out 0).trans rfl
   have z38_1 : wc.cell? ⟨gb651, 1, none⟩ = some (.int .i64 t646) := (blk_cell BK651.out 1).trans rfl
   have z38_2 : wc.cell? ⟨gb651, 2, none⟩ = some (.slice Ao14 t647.length co14) := (blk_cell BK651.out 2).trans rfl
   have q38_0 := blk_frozen BK651.out 0
   have q38_1 := blk_frozen BK651.out 1
   have q38_2 := blk_frozen BK651.out 2
   go_upto_region 16 with (first | ((with_reducible refine gate_callee (f := 28) rfl ?_); refine goesL_ (some 35) rfl rfl Tryz.func28 (by kernel_rfl) rfl #[.agg #[.string t645, .int .i64 t646, .slice Ao14 t647.length co14], .int .i64 1] rfl argsS_ ?_; (with_reducible refine (laws_markZone.calls kj4 t645 t646 (fun k_ => some k_ = (.slice Ao14 t647.length co14 : Value).ownBlock) (.slice Ao14 t647.length co14) t647 1 t653 t654 w _ ?side1 ?side2 A26.out).mono ?_); (case side1 => repeat (first | (with_reducible first | exact HB.out | apply below_alloc | apply pw_below_drewN | apply below_drew1 | refine below_set ?_ GE644.out | refine below_set ?_ GE651.out) | exact HB.out)); (case side2 => exact Kd.R_tight rfl HO_652002.out); rintro e w39 ⟨rfl, hy0, hb, hkp⟩; refine ⟨_, rfl, ?_⟩; have n0_ := a0_ (Kd.R_mono (ok' := fun k_ => nw_ k_ Ao14 t647.length co14) (Kd.R_keptB (HO_645002.out) hkp (fun k_ hk_ hs_ => (hk_) hs_)) (fun k_ hk_ => hk_.1)); have n1_ := a0_ (Kd.R_reok rfl hy0 (fun k_ e_ => HO_652002.out.1 k_ e_)); have n2_ := a0_ (blk_kept (kB_ BK644.out) hkp (fun hs_ => (fun e_ => (Kd.R_ne HO_652002.out BK644.out (by decide)) e_) hs_)); have n3_ := a0_ (blk_kept (kB_ BK651.out) hkp (fun hs_ => (fun e_ => (Kd.R_ne HO_652002.out BK651.out (by decide)) e_) hs_)); have n4_ := a0_ (hb); clear HO_645002; clear HO_652002; clear BK644; clear BK651; clear HB; have HO_645002 := n0_; have HO_652002 := n1_; have BK644 := n2_; have BK651 := n3_; have HB := n4_; clear n0_ n1_ n2_ n3_ n4_; (try clear hb); (try clear hkp); (try clear hy0); obtain ⟨z40_0, z40_1, z40_2, q40_0, q40_1, q40_2⟩ := bk3_ BK651.out) | ((with_reducible refine gate_callee (f := 29) rfl ?_); refine goesL_ (some 38) rfl rfl Tryz.func29 (by kernel_rfl) rfl #[.agg #[.string t645, .int .i64 t646, .slice Ao14 t654.length co14], .int .i64 1] rfl (by (try simp only [List.map_toArray, List.map_cons, List.map_nil]); first | done | (rw [show t654.length = t647.length from (Kd.R_reads' HO_652002.out).1.symm] <;> rfl) | rfl | (simp only [List.length_drop, List.length_take]; rfl)) ?_; (with_reducible refine (laws_heldZone.calls kj4 t645 t646 _ _ t654 1 t655 _ ?side1 ?side2 A27.out).mono ?_); (case side1 => exact kD_ (Kd.R_reads' HO_652002.out).2.2); (case side2 => rw [show t654.length = t647.length from (Kd.R_reads' HO_652002.out).1.symm]; exact (Kd.R_reads' HO_652002.out).2.1); rintro e w41 ⟨rfl, hb⟩; refine ⟨_, rfl, ?_⟩; replace HO_645002 := a0_ (Kd.R_below (kR_ HO_645002.out) hb); replace HO_652002 := a0_ (Kd.R_below (kR_ HO_652002.out) hb); replace BK644 := a0_ (bkB_ BK644 hb); replace BK651 := a0_ (bkB_ BK651 hb); replace HB := a0_ (below_step bq1_ hb); (try clear hb); (try clear hb2); (try clear hk); (try clear hi)) | ((with_reducible refine gate_callee (f := 26) rfl ?_); refine goesL_ (some 46) rfl rfl Tryz.func26 (by kernel_rfl) rfl #[.string a0] rfl argsS_ ?_; (with_reducible refine (impl_NewZone.calls kj4 a0 t656 t657 t658 t661 _ A35.out).mono ?_); rintro e w42 ⟨v659, rfl, ho0, hb⟩; refine ⟨_, rfl, ?_⟩; have n0_ := a0_ (Kd.R_elder' (kR_ HO_645002.out) (Kd.R_base ho0) hb); have n1_ := a0_ (Kd.R_elder' (kR_ HO_652002.out) (Kd.R_base ho0) hb); have n2_ := a0_ (Kd.R_lower (Kd.R_new' (Kd.R_new' ho0 (Kd.R_lt (kR_ HO_645002.out))) (Kd.R_lt (kR_ HO_652002.out))) (below_size bq1_)); have n3_ := a0_ (bkB_ BK644 hb); have n4_ := a0_ (bkB_ BK651 hb); have n5_ := a0_ (below_step bq1_ hb); clear HO_645002; clear HO_652002; clear BK644; clear BK651; clear HB; have HO_645002 := n0_; have HO_652002 := n1_; have HO660 := n2_; have BK644 := n3_; have BK651 := n4_; have HB := n5_; clear n0_ n1_ n2_ n3_ n4_ n5_; (try clear hb); (try clear hb2); (try clear hk); (try clear hi); (try clear ho0)) | ((with_reducible refine gate_dst (N := 9) rfl ?_); refine boxS_ 9 #[.string (⟨#[]⟩ : ByteArray), .int .i64 0, .slice none 0 0] 42 (fun gb662 hg w43 hbox hb => ?_); have n0_ := a0_ (Kd.R_below (kR_ HO_645002.out) hb); have n1_ := a0_ (Kd.R_below (kR_ HO_652002.out) hb); have n2_ := a0_ (Kd.R_below (kR_ HO660.out) hb); have n3_ := a0_ (bkB_ BK644 hb); have n4_ := a0_ (bkB_ BK651 hb); have n5_ := a0_ (below_step bq1_ hb); have n6_ := a0_ (hbox); have n7_ := a0_ (gw_ hg (below_size bq1_) : w.heap.size ≤ gb662); have n8_ := n7_; have n9_ := a0_ ((by rw [hg]; exact Nat.ne_of_lt (blk_lt (g := gb644) (o := .cells #[.string t638, .int .i64 t639, .slice Ao9 t640.length co9] 42 (0, 0)) (kB_ BK644.out)) : gb644 ≠ gb662)); have n10_ := a0_ ((by rw [hg]; exact Nat.ne_of_gt (blk_lt (g := gb644) (o := .cells #[.string t638, .int .i64 t639, .slice Ao9 t640.length co9] 42 (0, 0)) (kB_ BK644.out)) : gb662 ≠ gb644)); have n11_ := a0_ ((by rw [hg]; exact Nat.ne_of_lt (blk_lt (g := gb651) (o := .cells #[.string t645, .int .i64 t646, .slice Ao14 t647.length co14] 42 (0, 0)) (kB_ BK651.out)) : gb651 ≠ gb662)); have n12_ := a0_ ((by rw [hg]; exact Nat.ne_of_gt (blk_lt (g := gb651) (o := .cells #[.string t645, .int .i64 t646, .slice Ao14 t647.length co14] 42 (0, 0)) (kB_ BK651.out)) : gb662 ≠ gb651)); clear HO_645002; clear HO_652002; clear HO660; clear BK644; clear BK651; clear HB; have HO_645002 := n0_; have HO_652002 := n1_; have HO660 := n2_; have BK644 := n3_; have BK651 := n4_; have HB := n5_; have BK662 := n6_; have GW662 := n7_; have GE662 := n8_; have NB644_662 := n9_; have NB662_644 := n10_; have NB651_662 := n11_; have NB662_651 := n12_; clear n0_ n1_ n2_ n3_ n4_ n5_ n6_ n7_ n8_ n9_ n10_ n11_ n12_; clear hb hbox hg; have hnb44 := NB662_644.out; have hnc44 := NB644_662.out; have hnb45 := NB662_651.out; have hnc45 := NB651_662.out; obtain ⟨z46_0, z46_1, z46_2, q46_0, q46_1, q46_2⟩ := bk3_ BK662.out; obtain ⟨Ao47, co47, eo47⟩ := Kd.R_slice HO660.out; subst eo47))
   (try simp only [Act.put, List.setIfInBounds_toArray, List.set_cons_zero, List.set_cons_succ])
   go_cut [57] (fun v57 wc => ∃ (kq : Nat) (x57_35 : Bool), v57 = .bool x57_35 ∧ Aside0 (laws_FnExactNewZone.j1 kq t653 x57_35 t645 t646 t654 = some r) ∧ Aside0 (kq ≤ kj4) ∧ Aside0 (Kd.R k72 72 wc w.heap.size (fun k_ => some k_ ≠ ((.slice Ao14 t647.length co14) : Value).ownBlock ∧ some k_ ≠ ((.slice Ao47 t658.length co47) : Value).ownBlock) (.slice Ao9 t640.length co9) t640) ∧ Aside0 (Kd.R k72 72 wc w.heap.size (fun k_ => some k_ ≠ ((.slice Ao9 t640.length co9) : Value).ownBlock ∧ some k_ ≠ ((.slice Ao47 t658.length co47) : Value).ownBlock) (.slice Ao14 t647.length co14) t654) ∧ Aside0 (Kd.R k72 72 wc w.heap.size (fun k_ => some k_ ≠ ((.slice Ao9 t640.length co9) : Value).ownBlock ∧ some k_ ≠ ((.slice Ao14 t647.length co14) : Value).ownBlock) (.slice Ao47 t658.length co47) t658) ∧ Aside0 (wc.heap[gb644]? = some (.cells #[.string t638, .int .i64 t639, (.slice Ao9 t640.length co9)] 42 (0, 0))) ∧ Aside0 (wc.heap[gb651]? = some (.cells #[.string t645, .int .i64 t646, (.slice Ao14 t647.length co14)] 42 (0, 0))) ∧ Aside0 (wc.heap[gb662]? = some (.cells #[.string t656, .int .i64 t657, (.slice Ao47 t658.length co47)] 42 (0, 0))) ∧ Aside0 (Below w.heap.size w wc))
   case first =>
    have H := HC36.out
    clear HC36
    obtain ⟨t663, A480, H⟩ := Option.bind_eq_some_iff.mp H
    have A48 := a0_ A480
    clear A480
    by_cases c49 : t663 = true
    case pos =>
     subst c49
     rw [if_pos rfl] at H
     have H' := a0_ H
     clear H
     have hnb50 := NB662_644.out
     have hnc50 := NB644_662.out
     have hnb51 := NB662_651.out
     have hnc51 := NB651_662.out
     have z52_0 : w43.cell? ⟨gb662, 0, none⟩ = some (.string (⟨#[]⟩ : ByteArray)) := (blk_cell BK662.out 0).trans rfl
     have z52_1 : w43.cell? ⟨gb662, 1, none⟩ = some (.int .i64 0) := (blk_cell BK662.out 1).trans rfl
     have z52_2 : w43.cell? ⟨gb662, 2, none⟩ = some (.slice none 0 0) := (blk_cell BK662.out 2).trans rfl
     have q52_0 := blk_frozen BK662.out 0
     have q52_1 := blk_frozen BK662.out 1
     have q52_2 := blk_frozen BK662.out 2
     have hnb53 := NB644_651.out
     have hnc53 := NB651_644.out
     have z54_0 : w43.cell? ⟨gb644, 0, none⟩ = some (.string t638) := (blk_cell BK644.out 0).trans rfl
     have z54_1 : w43.cell? ⟨gb644, 1, none⟩ = some (.int .i64 t639) := (blk_cell BK644.out 1).trans rfl
     have z54_2 : w43.cell? ⟨gb644, 2, none⟩ = some (.slice Ao9 t640.length co9) := (blk_cell BK644.out 2).trans rfl
     have q54_0 := blk_frozen BK644.out 0
     have q54_1 := blk_frozen BK644.out 1
     have q54_2 := blk_frozen BK644.out 2
     go_wp2_with (first | ((with_reducible refine gate_callee (f := 27) rfl ?_); refine goesL_ (some 51) rfl rfl Tryz.func27 (by kernel_rfl) rfl #[.agg #[.string t656, .int .i64 t657, .slice Ao47 t658.length co47], .agg #[.string t638, .int .i64 t639, .slice Ao9 t640.length co9]] rfl argsS_ ?_; (with_reducible refine (laws_eqZone.calls kj4 t656 t657 _ _ t658 t638 t639 _ _ t640 true _ ?side1 ?side2 ?side3 ?side4 A48.out).mono ?_); (case side1 => refine (Kd.R_reads' (e := 72) (base := w.heap.size) (ok := fun k_ => ((True ∧ nw_ k_ Ao9 t640.length co9) ∧ nw_ k_ Ao14 t647.length co14)) (n := t658.length) (c := co47) ?_).2.2; exact (kR_ (farR3_ HO660.out BK662.out))); (case side2 => exact (Kd.R_reads' HO660.out).2.1); (case side3 => refine (Kd.R_reads' (e := 72) (base := w.heap.size) (ok := fun k_ => (nw_ k_ Ao14 t647.length co14 ∧ nw_ k_ Ao47 t658.length co47)) (n := t640.length) (c := co9) ?_).2.2; exact (kR_ (farR3_ HO_645002.out BK662.out))); (case side4 => exact (Kd.R_reads' HO_645002.out).2.1); rintro e w55 ⟨rfl, hb⟩; refine ⟨_, rfl, ?_⟩; replace HO_645002 := a0_ (Kd.R_below (kR_ (farR3_ HO_645002.out BK662.out)) hb); replace HO_652002 := a0_ (Kd.R_below (kR_ (farR3_ HO_652002.out BK662.out)) hb); replace HO660 := a0_ (Kd.R_below (kR_ (farR3_ HO660.out BK662.out)) hb); replace BK644 := a0_ (blk_below (g := gb644) (o := .cells #[.string t638, .int .i64 t639, .slice Ao9 t640.length co9] 42 (0, 0)) (bfar3_ NB644_662.out BK644.out) hb); replace BK651 := a0_ (blk_below (g := gb651) (o := .cells #[.string t645, .int .i64 t646, .slice Ao14 t647.length co14] 42 (0, 0)) (bfar3_ NB651_662.out BK651.out) hb); replace BK662 := a0_ (blk_below (g := gb662) (o := .cells #[.string t656, .int .i64 t657, .slice Ao47 t658.length co47] 42 (0, 0)) (put3_ BK662.out) hb); replace HB := a0_ (below_step bq1_ hb); (try clear hb); (try clear hb2); (try clear hk); (try clear hi)))
     go_meet
     case rel => exact ⟨_, ((t661 != t643)), rs_, H', ⟨by have := HJ4.out; first | omega | exact Nat.le_refl _⟩, ⟨by (with_reducible repeat (first | apply Kd.R_alloc | apply Kd.R_drewN | apply Kd.R_drew)); exact HO_645002.out⟩, ⟨by (with_reducible repeat (first | apply Kd.R_alloc | apply Kd.R_drewN | apply Kd.R_drew)); exact HO_652002.out⟩, ⟨by (with_reducible repeat (first | apply Kd.R_alloc | apply Kd.R_drewN | apply Kd.R_drew)); exact Kd.R_mono HO660.out (fun _ hk => ⟨hk.1.2, hk.2⟩)⟩, ⟨by (with_reducible repeat (first | refine blk_drewN ?_ _ | refine blk_drew ?_ | refine blk_alloc ?_ _)); exact BK644.out⟩, ⟨by (with_reducible repeat (first | refine blk_drewN ?_ _ | refine blk_drew ?_ | refine blk_alloc ?_ _)); exact BK651.out⟩, ⟨by (with_reducible repeat (first | refine blk_drewN ?_ _ | refine blk_drew ?_ | refine blk_alloc ?_ _)); exact BK662.out⟩, ⟨bq1_⟩⟩
    replace c49 := Bool.eq_false_iff.mpr c49
    subst c49
    rw [if_neg (show ¬ (false = true) by decide)] at H
    have H' := a0_ H
    clear H
    have hnb56 := NB662_644.out
    have hnc56 := NB644_662.out
    have hnb57 := NB662_651.out
    have hnc57 := NB651_662.out
    have z58_0 : w43.cell? ⟨gb662, 0, none⟩ = some (.string (⟨#[]⟩ : ByteArray)) := (blk_cell BK662.out 0).trans rfl
    have z58_1 : w43.cell? ⟨gb662, 1, none⟩ = some (.int .i64 0) := (blk_cell BK662.out 1).trans rfl
    have z58_2 : w43.cell? ⟨gb662, 2, none⟩ = some (.slice none 0 0) := (blk_cell BK662.out 2).trans rfl
    have q58_0 := blk_frozen BK662.out 0
    have q58_1 := blk_frozen BK662.out 1
    have q58_2 := blk_frozen BK662.out 2
    have hnb59 := NB644_651.out
    have hnc59 := NB651_644.out
    have z60_0 : w43.cell? ⟨gb644, 0, none⟩ = some (.string t638) := (blk_cell BK644.out 0).trans rfl
    have z60_1 : w43.cell? ⟨gb644, 1, none⟩ = some (.int .i64 t639) := (blk_cell BK644.out 1).trans rfl
    have z60_2 : w43.cell? ⟨gb644, 2, none⟩ = some (.slice Ao9 t640.length co9) := (blk_cell BK644.out 2).trans rfl
    have q60_0 := blk_frozen BK644.out 0
    have q60_1 := blk_frozen BK644.out 1
    have q60_2 := blk_frozen BK644.out 2
    go_wp2_with (first | ((with_reducible refine gate_callee (f := 27) rfl ?_); refine goesL_ (some 51) rfl rfl Tryz.func27 (by kernel_rfl) rfl #[.agg #[.string t656, .int .i64 t657, .slice Ao47 t658.length co47], .agg #[.string t638, .int .i64 t639, .slice Ao9 t640.length co9]] rfl argsS_ ?_; (with_reducible refine (laws_eqZone.calls kj4 t656 t657 _ _ t658 t638 t639 _ _ t640 false _ ?side1 ?side2 ?side3 ?side4 A48.out).mono ?_); (case side1 => refine (Kd.R_reads' (e := 72) (base := w.heap.size) (ok := fun k_ => ((True ∧ nw_ k_ Ao9 t640.length co9) ∧ nw_ k_ Ao14 t647.length co14)) (n := t658.length) (c := co47) ?_).2.2; exact (kR_ (farR3_ HO660.out BK662.out))); (case side2 => exact (Kd.R_reads' HO660.out).2.1); (case side3 => refine (Kd.R_reads' (e := 72) (base := w.heap.size) (ok := fun k_ => (nw_ k_ Ao14 t647.length co14 ∧ nw_ k_ Ao47 t658.length co47)) (n := t640.length) (c := co9) ?_).2.2; exact (kR_ (farR3_ HO_645002.out BK662.out))); (case side4 => exact (Kd.R_reads' HO_645002.out).2.1); rintro e w61 ⟨rfl, hb⟩; refine ⟨_, rfl, ?_⟩; replace HO_645002 := a0_ (Kd.R_below (kR_ (farR3_ HO_645002.out BK662.out)) hb); replace HO_652002 := a0_ (Kd.R_below (kR_ (farR3_ HO_652002.out BK662.out)) hb); replace HO660 := a0_ (Kd.R_below (kR_ (farR3_ HO660.out BK662.out)) hb); replace BK644 := a0_ (blk_below (g := gb644) (o := .cells #[.string t638, .int .i64 t639, .slice Ao9 t640.length co9] 42 (0, 0)) (bfar3_ NB644_662.out BK644.out) hb); replace BK651 := a0_ (blk_below (g := gb651) (o := .cells #[.string t645, .int .i64 t646, .slice Ao14 t647.length co14] 42 (0, 0)) (bfar3_ NB651_662.out BK651.out) hb); replace BK662 := a0_ (blk_below (g := gb662) (o := .cells #[.string t656, .int .i64 t657, .slice Ao47 t658.length co47] 42 (0, 0)) (put3_ BK662.out) hb); replace HB := a0_ (below_step bq1_ hb); (try clear hb); (try clear hb2); (try clear hk); (try clear hi)))
    go_meet
    case rel => exact ⟨_, (true), rs_, H', ⟨by have := HJ4.out; first | omega | exact Nat.le_refl _⟩, ⟨by (with_reducible repeat (first | apply Kd.R_alloc | apply Kd.R_drewN | apply Kd.R_drew)); exact HO_645002.out⟩, ⟨by (with_reducible repeat (first | apply Kd.R_alloc | apply Kd.R_drewN | apply Kd.R_drew)); exact HO_652002.out⟩, ⟨by (with_reducible repeat (first | apply Kd.R_alloc | apply Kd.R_drewN | apply Kd.R_drew)); exact Kd.R_mono HO660.out (fun _ hk => ⟨hk.1.2, hk.2⟩)⟩, ⟨by (with_reducible repeat (first | refine blk_drewN ?_ _ | refine blk_drew ?_ | refine blk_alloc ?_ _)); exact BK644.out⟩, ⟨by (with_reducible repeat (first | refine blk_drewN ?_ _ | refine blk_drew ?_ | refine blk_alloc ?_ _)); exact BK651.out⟩, ⟨by (with_reducible repeat (first | refine blk_drewN ?_ _ | refine blk_drew ?_ | refine blk_alloc ?_ _)); exact BK662.out⟩, ⟨bq1_⟩⟩
   case rest =>
    clear HC36
    try clear c1
    try clear c2
    try clear c2b0
    try clear c2b1
    try clear p2
    try clear c3
    try clear c4
    try clear c5
    try clear c12
    try clear c16
    try clear c17
    try clear c21
    try clear c25
    try clear c26
    try clear c27
    try clear c28
    try clear c28b0
    try clear c29
    try clear c34
    try clear c34b0
    try clear c34b1
    try clear c37
    try clear c44
    try clear c45
    try clear c49
    try clear c50
    try clear c51
    try clear c53
    try clear c56
    try clear c57
    try clear c59
    try clear z13_0 z13_1 z13_2
    try clear z18_0 z18_1 z18_2
    try clear z19_0 z19_1 z19_2
    try clear z22_0 z22_1 z22_2
    try clear z23_0 z23_1 z23_2
    try clear z30_0 z30_1 z30_2
    try clear z32_0 z32_1 z32_2
    try clear z38_0 z38_1 z38_2
    try clear z40_0 z40_1 z40_2
    try clear z46_0 z46_1 z46_2
    try clear z52_0 z52_1 z52_2
    try clear z54_0 z54_1 z54_2
    try clear z58_0 z58_1 z58_2
    try clear z60_0 z60_1 z60_2
    try clear z8_0 z8_1 z8_2
    try clear q13_0 q13_1 q13_2
    try clear q18_0 q18_1 q18_2
    try clear q19_0 q19_1 q19_2
    try clear q22_0 q22_1 q22_2
    try clear q23_0 q23_1 q23_2
    try clear q30_0 q30_1 q30_2
    try clear q32_0 q32_1 q32_2
    try clear q38_0 q38_1 q38_2
    try clear q40_0 q40_1 q40_2
    try clear q46_0 q46_1 q46_2
    try clear q52_0 q52_1 q52_2
    try clear q54_0 q54_1 q54_2
    try clear q58_0 q58_1 q58_2
    try clear q60_0 q60_1 q60_2
    try clear q8_0 q8_1 q8_2
    try clear p2
    obtain ⟨kq, x57_35, rfl, HA, HJ35, HO_645002, HO_652002, HO_663002, BK644, BK651, BK662, HB⟩ := hcut
    have hl652002_35 := (Kd.R_reads' HO_652002.out).1
    rw [hl652002_35] at HO_652002
    (try simp only [hl652002_35])
    (try simp only [hl652002_35] at BK644)
    (try simp only [hl652002_35] at BK651)
    (try simp only [hl652002_35] at BK662)
    (try simp only [hl652002_35] at HO_645002)
    (try simp only [hl652002_35] at HO_663002)
    cases kq with
    | zero => exact absurd HA.out (by simp [laws_FnExactNewZone.j1])
    | succ kj35 =>
     have H := HA.out
     clear HA
     simp only [laws_FnExactNewZone.j1] at H
     by_cases c62 : x57_35 = true
     case pos =>
      subst c62
      rw [if_pos rfl] at H
      obtain rfl := Option.some.inj H
      go_wp2
      go_ret
      exact ⟨rr_, bq1_⟩
     replace c62 := Bool.eq_false_iff.mpr c62
     subst c62
     rw [if_neg (show ¬ (false = true) by decide)] at H
     obtain ⟨t664, A630, H⟩ := Option.bind_eq_some_iff.mp H
     have A63 := a0_ A630
     clear A630
     by_cases c64 : t664 < 0
     case pos =>
      rw [if_pos c64] at H
      have c64b0 := decide_eq_true c64
      clear c64
      obtain rfl := Option.some.inj H
      have hnb65 := NB651_644.out
      have hnc65 := NB644_651.out
      have hnb66 := NB651_662.out
      have hnc66 := NB662_651.out
      have z67_0 : wc.cell? ⟨gb651, 0, none⟩ = some (.string t645) := (blk_cell BK651.out 0).trans rfl
      have z67_1 : wc.cell? ⟨gb651, 1, none⟩ = some (.int .i64 t646) := (blk_cell BK651.out 1).trans rfl
      have z67_2 : wc.cell? ⟨gb651, 2, none⟩ = some (.slice Ao14 t654.length co14) := (blk_cell BK651.out 2).trans rfl
      have q67_0 := blk_frozen BK651.out 0
      have q67_1 := blk_frozen BK651.out 1
      have q67_2 := blk_frozen BK651.out 2
      go_wp2_with (first | ((with_reducible refine gate_callee (f := 29) rfl ?_); refine goesL_ (some 60) rfl rfl Tryz.func29 (by kernel_rfl) rfl #[.agg #[.string t645, .int .i64 t646, .slice Ao14 t654.length co14], .int .i64 1] rfl argsS_ ?_; (with_reducible refine (laws_heldZone.calls kj35 t645 t646 _ _ t654 1 t664 _ ?side1 ?side2 A63.out).mono ?_); (case side1 => exact kD_ (Kd.R_reads' HO_652002.out).2.2); (case side2 => exact (Kd.R_reads' HO_652002.out).2.1); rintro e w68 ⟨rfl, hb⟩; refine ⟨_, rfl, ?_⟩; replace HO_645002 := a0_ (Kd.R_below (kR_ HO_645002.out) hb); replace HO_652002 := a0_ (Kd.R_below (kR_ HO_652002.out) hb); replace HO_663002 := a0_ (Kd.R_below (kR_ HO_663002.out) hb); replace BK644 := a0_ (bkB_ BK644 hb); replace BK651 := a0_ (bkB_ BK651 hb); replace BK662 := a0_ (bkB_ BK662 hb); replace HB := a0_ (below_step bq1_ hb); (try clear hb); (try clear hb2); (try clear hk); (try clear hi)))
      go_ret
      exact ⟨rr_, bq1_⟩
     rw [if_neg c64] at H
     have c64b0 := decide_eq_false c64
     clear c64
     by_cases c69 : t664 = t653
     case neg =>
      rw [if_neg c69] at H
      have c69b0 := beq_eq_false_iff_ne.mpr c69
      have c69b1 := bne_iff_ne.mpr c69
      obtain rfl := Option.some.inj H
      have hnb74 := NB651_644.out
      have hnc74 := NB644_651.out
      have hnb75 := NB651_662.out
      have hnc75 := NB662_651.out
      have z76_0 : wc.cell? ⟨gb651, 0, none⟩ = some (.string t645) := (blk_cell BK651.out 0).trans rfl
      have z76_1 : wc.cell? ⟨gb651, 1, none⟩ = some (.int .i64 t646) := (blk_cell BK651.out 1).trans rfl
      have z76_2 : wc.cell? ⟨gb651, 2, none⟩ = some (.slice Ao14 t654.length co14) := (blk_cell BK651.out 2).trans rfl
      have q76_0 := blk_frozen BK651.out 0
      have q76_1 := blk_frozen BK651.out 1
      have q76_2 := blk_frozen BK651.out 2
      go_wp2_with (first | ((with_reducible refine gate_callee (f := 29) rfl ?_); refine goesL_ (some 60) rfl rfl Tryz.func29 (by kernel_rfl) rfl #[.agg #[.string t645, .int .i64 t646, .slice Ao14 t654.length co14], .int .i64 1] rfl argsS_ ?_; (with_reducible refine (laws_heldZone.calls kj35 t645 t646 _ _ t654 1 t664 _ ?side1 ?side2 A63.out).mono ?_); (case side1 => exact kD_ (Kd.R_reads' HO_652002.out).2.2); (case side2 => exact (Kd.R_reads' HO_652002.out).2.1); rintro e w77 ⟨rfl, hb⟩; refine ⟨_, rfl, ?_⟩; replace HO_645002 := a0_ (Kd.R_below (kR_ HO_645002.out) hb); replace HO_652002 := a0_ (Kd.R_below (kR_ HO_652002.out) hb); replace HO_663002 := a0_ (Kd.R_below (kR_ HO_663002.out) hb); replace BK644 := a0_ (bkB_ BK644 hb); replace BK651 := a0_ (bkB_ BK651 hb); replace BK662 := a0_ (bkB_ BK662 hb); replace HB := a0_ (below_step bq1_ hb); (try clear hb); (try clear hb2); (try clear hk); (try clear hi)))
      go_ret
      exact ⟨rr_, bq1_⟩
     rw [if_pos c69] at H
     have c69b0 := beq_iff_eq.mpr c69
     have c69b1 := bne_eq_false_iff_eq.mpr c69
     clear c69
     obtain rfl := Option.some.inj H
     have hnb70 := NB651_644.out
     have hnc70 := NB644_651.out
     have hnb71 := NB651_662.out
     have hnc71 := NB662_651.out
     have z72_0 : wc.cell? ⟨gb651, 0, none⟩ = some (.string t645) := (blk_cell BK651.out 0).trans rfl
     have z72_1 : wc.cell? ⟨gb651, 1, none⟩ = some (.int .i64 t646) := (blk_cell BK651.out 1).trans rfl
     have z72_2 : wc.cell? ⟨gb651, 2, none⟩ = some (.slice Ao14 t654.length co14) := (blk_cell BK651.out 2).trans rfl
     have q72_0 := blk_frozen BK651.out 0
     have q72_1 := blk_frozen BK651.out 1
     have q72_2 := blk_frozen BK651.out 2
     go_wp2_with (first | ((with_reducible refine gate_callee (f := 29) rfl ?_); refine goesL_ (some 60) rfl rfl Tryz.func29 (by kernel_rfl) rfl #[.agg #[.string t645, .int .i64 t646, .slice Ao14 t654.length co14], .int .i64 1] rfl argsS_ ?_; (with_reducible refine (laws_heldZone.calls kj35 t645 t646 _ _ t654 1 t664 _ ?side1 ?side2 A63.out).mono ?_); (case side1 => exact kD_ (Kd.R_reads' HO_652002.out).2.2); (case side2 => exact (Kd.R_reads' HO_652002.out).2.1); rintro e w73 ⟨rfl, hb⟩; refine ⟨_, rfl, ?_⟩; replace HO_645002 := a0_ (Kd.R_below (kR_ HO_645002.out) hb); replace HO_652002 := a0_ (Kd.R_below (kR_ HO_652002.out) hb); replace HO_663002 := a0_ (Kd.R_below (kR_ HO_663002.out) hb); replace BK644 := a0_ (bkB_ BK644 hb); replace BK651 := a0_ (bkB_ BK651 hb); replace BK662 := a0_ (bkB_ BK662 hb); replace HB := a0_ (below_step bq1_ hb); (try clear hb); (try clear hb2); (try clear hk); (try clear hi)))
     go_ret
     exact ⟨rr_, bq1_⟩
/-- THE ONE PURE STATEMENT of laws_FnExactNewZone: yours. -/
def laws_FnExactNewZone.Pure : Prop := ∀ (a0 : ByteArray), a0.size ≤ 140737488351232 → ∃ k, laws_FnExactNewZone.f k a0 = some true
theorem laws_FnExactNewZone.walk (P : laws_FnExactNewZone.Pure) (a0 : ByteArray) (w : World) (w0 : a0.size ≤ 140737488351232) (hv_ : Vars w) :
 Calls Tryz.prog 5 #[.string a0] w fun e w' => e = .returned (.bool true) ∧ Below w.heap.size w w' := by
 obtain ⟨k, h⟩ := P a0 w0
 refine (laws_FnExactNewZone.calls k a0 true w h).mono ?_
 rintro e w' ⟨rfl, hd⟩
 exact ⟨rfl, hd⟩
end Go.Proofs.YtkpkfallgjdkmaaGreatDoor.P
