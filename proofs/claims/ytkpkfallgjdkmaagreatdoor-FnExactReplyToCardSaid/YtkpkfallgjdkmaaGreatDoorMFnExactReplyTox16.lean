/- FnExactReplyTo: part 17 of 23 of my texts for this claim, joined; the theorem stands in the last. Conditions: none beyond the statement's. -/
import Derived.Test.YtkpkfallgjdkmaaGreatDoorMFnExactReplyTox14
namespace Go.Proofs.YtkpkfallgjdkmaaGreatDoor.P
open Go.RowKit Go.Proofs.YtkpkfallgjdkmaaGreatDoorW.PrintWords Go.Proofs.YtkpkfallgjdkmaaGreatDoorW.PrintLast Go.Proofs.YtkpkfallgjdkmaaGreatDoorW.PrintMore
attribute [local go_sem] max2_int min2_int max_two min_two max_three min_three max_four min_four
set_option linter.unusedVariables false
set_option linter.unusedSimpArgs false
def spec_ReplyTo.j0 : Nat → Int → List (S72) → List (S72) → Bool → Int → Bool → Bool → Int → ByteArray → Int → List (S72) → List (S72) → Option (Int × Bool × Bool × Int × ByteArray × Int × (List (S72)) × (List (S72)) × Bool)
 | 0, _, _, _, _, _, _, _, _, _, _, _, _ => none
 | k + 1, x1, x2, x3, x16, x303000, x303001, x303002, x303003, x303004, x303005, x303006, x303007 => if x16 = true then (some (0, false, false, 0, (⟨#[]⟩ : ByteArray), 0, ([] : List (S72)), ([] : List (S72)), false)) else ((some (([] : List (S72)) : List (S72))).bind fun y305 => (if y305.length + x2.length < 2932031007402 then ((some (y305 ++ x2 : List (S72))).bind fun y308 => ((some (([] : List (S72)) : List (S72))).bind fun y311 => (if y311.length + x3.length < 2932031007402 then ((some (y311 ++ x3 : List (S72))).bind fun y314 => ((spec_GoodMessage.f k x303000 true x303002 x1 x303004 x303005 y308 y314).bind fun t317 => (if t317 = true then (some (x303000, true, x303002, x1, x303004, x303005, y308, y314, true)) else (some (0, false, false, 0, (⟨#[]⟩ : ByteArray), 0, ([] : List (S72)), ([] : List (S72)), false))))) else (none)))) else (none)))
def spec_ReplyTo.f (k : Nat) (a0_0 : Int) (a0_1 : Bool) (a0_2 : Bool) (a0_3 : Int) (a0_4 : ByteArray) (a0_5 : Int) (l0_6 : List (S72)) (l0_7 : List (S72)) (a1 : Int) (l2 : List (S72)) (l3 : List (S72)) : Option (Int × Bool × Bool × Int × ByteArray × Int × (List (S72)) × (List (S72)) × Bool) := (spec_GoodMessage.f k a0_0 a0_1 a0_2 a0_3 a0_4 a0_5 l0_6 l0_7).bind fun t304 => (if t304 = true then (spec_ReplyTo.j0 k a1 l2 l3 a0_1 a0_0 a0_1 a0_2 a0_3 a0_4 a0_5 l0_6 l0_7) else (spec_ReplyTo.j0 k a1 l2 l3 true a0_0 a0_1 a0_2 a0_3 a0_4 a0_5 l0_6 l0_7))
set_option maxHeartbeats 8000000 in
set_option maxRecDepth 100000 in
theorem spec_ReplyTo.calls (k : Nat) (a0_0 : Int) (a0_1 : Bool) (a0_2 : Bool) (a0_3 : Int) (a0_4 : ByteArray) (a0_5 : Int) (A0_6 : Option Addr) (c0_6 : Nat) (l0_6 : List (S72)) (A0_7 : Option Addr) (c0_7 : Nat) (l0_7 : List (S72)) (a1 : Int) (A2 : Option Addr) (c2 : Nat) (l2 : List (S72)) (A3 : Option Addr) (c3 : Nat) (l3 : List (S72)) (r1 : Int) (r2 : Bool) (r3 : Bool) (r4 : Int) (r5 : ByteArray) (r6 : Int) (r7 : List (S72)) (r8 : List (S72)) (r9 : Bool) (w : World) (hr0_6 : Kd.C k72 w A0_6 l0_6.length l0_6) (hc0_6 : l0_6.length ≤ c0_6) (hr0_7 : Kd.C k72 w A0_7 l0_7.length l0_7) (hc0_7 : l0_7.length ≤ c0_7) (hr2 : Kd.C k72 w A2 l2.length l2) (hc2 : l2.length ≤ c2) (hr3 : Kd.C k72 w A3 l3.length l3) (hc3 : l3.length ≤ c3) (h : spec_ReplyTo.f k a0_0 a0_1 a0_2 a0_3 a0_4 a0_5 l0_6 l0_7 a1 l2 l3 = some (r1, r2, r3, r4, r5, r6, r7, r8, r9)) :
 Calls Tryz.prog 19 #[.agg #[.int .i64 a0_0, .bool a0_1, .bool a0_2, .int .i64 a0_3, .string a0_4, .int .i64 a0_5, .slice A0_6 l0_6.length c0_6, .slice A0_7 l0_7.length c0_7], .int .i64 a1, .slice A2 l2.length c2, .slice A3 l3.length c3] w fun e w' => ∃ v6_ v7_ : Value, e = .returned (.tuple #[.agg #[.int .i64 r1, .bool r2, .bool r3, .int .i64 r4, .string r5, .int .i64 r6, v6_, v7_], .bool r9]) ∧ Kd.R k72 72 w' w.heap.size (fun k_ => some k_ ≠ (v7_ : Value).ownBlock) v6_ r7 ∧ Kd.R k72 72 w' w.heap.size (fun k_ => some k_ ≠ (v6_ : Value).ownBlock) v7_ r8 ∧ Below w.heap.size w w' := by
 have hu24 := Tryz.underlying24
 have HR0_6 := a0_ hr0_6
 have HC0_6 := a0_ hc0_6
 clear hr0_6 hc0_6
 have HR0_7 := a0_ hr0_7
 have HC0_7 := a0_ hc0_7
 clear hr0_7 hc0_7
 have HR2 := a0_ hr2
 have HC2 := a0_ hc2
 clear hr2 hc2
 have HR3 := a0_ hr3
 have HC3 := a0_ hc3
 clear hr3 hc3
 have HB := a0_ (Below.refl w.heap.size w)
 have H : ((spec_GoodMessage.f k a0_0 a0_1 a0_2 a0_3 a0_4 a0_5 l0_6 l0_7).bind fun t304 => (if t304 = true then (spec_ReplyTo.j0 k a1 l2 l3 a0_1 a0_0 a0_1 a0_2 a0_3 a0_4 a0_5 l0_6 l0_7) else (spec_ReplyTo.j0 k a1 l2 l3 true a0_0 a0_1 a0_2 a0_3 a0_4 a0_5 l0_6 l0_7))) = some (r1, r2, r3, r4, r5, r6, r7, r8, r9) := h
 clear h
 have HC5 := a0_ H
 clear H
 go_enter Tryz.func19, Tryz.ntmps19
 go_upto_region 1 with (first | ((with_reducible refine gate_dst (N := 4) rfl ?_); refine boxS_ 4 #[.int .i64 a0_0, .bool a0_1, .bool a0_2, .int .i64 a0_3, .string a0_4, .int .i64 a0_5, .slice A0_6 l0_6.length c0_6, .slice A0_7 l0_7.length c0_7] 24 (fun gb302 hg w6 hbox hb => ?_); have n0_ := a0_ (below_step bq0_ hb); have n1_ := a0_ (hbox); have n2_ := a0_ (gw_ hg : w.heap.size ≤ gb302); have n3_ := n2_; clear HB; have HB := n0_; have BK302 := n1_; have GW302 := n2_; have GE302 := n3_; clear n0_ n1_ n2_ n3_; clear hb hbox hg) | ((with_reducible refine gate_dst (N := 8) rfl ?_); refine boxS_ 8 #[.int .i64 0, .bool false, .bool false, .int .i64 0, .string (⟨#[]⟩ : ByteArray), .int .i64 0, .slice none 0 0, .slice none 0 0] 24 (fun gb303 hg w7 hbox hb => ?_); have n0_ := a0_ (bkB_ BK302 hb); have n1_ := a0_ (below_step bq1_ hb); have n2_ := a0_ (hbox); have n3_ := a0_ (gw_ hg (below_size bq1_) : w.heap.size ≤ gb303); have n4_ := n3_; have n5_ := a0_ ((by rw [hg]; exact Nat.ne_of_lt (blk_lt (g := gb302) (o := .cells #[.int .i64 a0_0, .bool a0_1, .bool a0_2, .int .i64 a0_3, .string a0_4, .int .i64 a0_5, .slice A0_6 l0_6.length c0_6, .slice A0_7 l0_7.length c0_7] 24 (0, 0)) (kB_ BK302.out)) : gb302 ≠ gb303)); have n6_ := a0_ ((by rw [hg]; exact Nat.ne_of_gt (blk_lt (g := gb302) (o := .cells #[.int .i64 a0_0, .bool a0_1, .bool a0_2, .int .i64 a0_3, .string a0_4, .int .i64 a0_5, .slice A0_6 l0_6.length c0_6, .slice A0_7 l0_7.length c0_7] 24 (0, 0)) (kB_ BK302.out)) : gb303 ≠ gb302)); clear BK302; clear HB; have BK302 := n0_; have HB := n1_; have BK303 := n2_; have GW303 := n3_; have GE303 := n4_; have NB302_303 := n5_; have NB303_302 := n6_; clear n0_ n1_ n2_ n3_ n4_ n5_ n6_; clear hb hbox hg))
 (try simp only [Act.put, List.setIfInBounds_toArray, List.set_cons_zero, List.set_cons_succ])
 go_cut [16] (fun v16 wc => ∃ (kq : Nat) (x16_4 : Bool), v16 = .bool x16_4 ∧ Aside0 (spec_ReplyTo.j0 kq a1 l2 l3 x16_4 a0_0 a0_1 a0_2 a0_3 a0_4 a0_5 l0_6 l0_7 = some (r1, r2, r3, r4, r5, r6, r7, r8, r9)) ∧ Aside0 (kq ≤ k) ∧ Aside0 (wc.heap[gb302]? = some (.cells #[.int .i64 a0_0, .bool a0_1, .bool a0_2, .int .i64 a0_3, .string a0_4, .int .i64 a0_5, (.slice A0_6 l0_6.length c0_6), (.slice A0_7 l0_7.length c0_7)] 24 (0, 0))) ∧ Aside0 (wc.heap[gb303]? = some (.cells #[.int .i64 0, .bool false, .bool false, .int .i64 0, .string (⟨#[]⟩ : ByteArray), .int .i64 0, (.slice none 0 0), (.slice none 0 0)] 24 (0, 0))) ∧ Aside0 (Below w.heap.size w wc))
 case first =>
  have H := HC5.out
  clear HC5
  obtain ⟨t304, A80, H⟩ := Option.bind_eq_some_iff.mp H
  have A8 := a0_ A80
  clear A80
  by_cases c9 : t304 = true
  case pos =>
   subst c9
   rw [if_pos rfl] at H
   have H' := a0_ H
   clear H
   have hnb10 := NB302_303.out
   have hnc10 := NB303_302.out
   have z11_0 : w7.cell? ⟨gb302, 0, none⟩ = some (.int .i64 a0_0) := (blk_cell BK302.out 0).trans rfl
   have z11_1 : w7.cell? ⟨gb302, 1, none⟩ = some (.bool a0_1) := (blk_cell BK302.out 1).trans rfl
   have z11_2 : w7.cell? ⟨gb302, 2, none⟩ = some (.bool a0_2) := (blk_cell BK302.out 2).trans rfl
   have z11_3 : w7.cell? ⟨gb302, 3, none⟩ = some (.int .i64 a0_3) := (blk_cell BK302.out 3).trans rfl
   have z11_4 : w7.cell? ⟨gb302, 4, none⟩ = some (.string a0_4) := (blk_cell BK302.out 4).trans rfl
   have z11_5 : w7.cell? ⟨gb302, 5, none⟩ = some (.int .i64 a0_5) := (blk_cell BK302.out 5).trans rfl
   have z11_6 : w7.cell? ⟨gb302, 6, none⟩ = some (.slice A0_6 l0_6.length c0_6) := (blk_cell BK302.out 6).trans rfl
   have z11_7 : w7.cell? ⟨gb302, 7, none⟩ = some (.slice A0_7 l0_7.length c0_7) := (blk_cell BK302.out 7).trans rfl
   have q11_0 := blk_frozen BK302.out 0
   have q11_1 := blk_frozen BK302.out 1
   have q11_2 := blk_frozen BK302.out 2
   have q11_3 := blk_frozen BK302.out 3
   have q11_4 := blk_frozen BK302.out 4
   have q11_5 := blk_frozen BK302.out 5
   have q11_6 := blk_frozen BK302.out 6
   have q11_7 := blk_frozen BK302.out 7
   go_wp2_with (first | ((with_reducible refine gate_callee (f := 48) rfl ?_); refine goesL_ (some 11) rfl rfl Tryz.func48 (by kernel_rfl) rfl #[.agg #[.int .i64 a0_0, .bool a0_1, .bool a0_2, .int .i64 a0_3, .string a0_4, .int .i64 a0_5, .slice A0_6 l0_6.length c0_6, .slice A0_7 l0_7.length c0_7]] rfl argsS_ ?_; (with_reducible refine (spec_GoodMessage.calls k a0_0 a0_1 a0_2 a0_3 a0_4 a0_5 _ _ l0_6 _ _ l0_7 true _ ?side1 ?side2 ?side3 ?side4 A8.out).mono ?_); (case side1 => exact kC_ HR0_6.out HB.out); (case side2 => exact HC0_6.out); (case side3 => exact kC_ HR0_7.out HB.out); (case side4 => exact HC0_7.out); rintro e w12 ⟨rfl, hb⟩; refine ⟨_, rfl, ?_⟩; replace BK302 := a0_ (bkB_ BK302 hb); replace BK303 := a0_ (bkB_ BK303 hb); replace HB := a0_ (below_step bq1_ hb); (try clear hb); (try clear hb2); (try clear hk); (try clear hi); obtain ⟨z13_0, z13_1, z13_2, z13_3, z13_4, z13_5, z13_6, z13_7, q13_0, q13_1, q13_2, q13_3, q13_4, q13_5, q13_6, q13_7⟩ := bk8_ BK302.out))
   go_meet
   case rel => exact ⟨_, (a0_1), rs_, H', ⟨by first | omega | exact Nat.le_refl _⟩, ⟨by (with_reducible repeat (first | refine blk_drewN ?_ _ | refine blk_drew ?_ | refine blk_alloc ?_ _)); exact BK302.out⟩, ⟨by (with_reducible repeat (first | refine blk_drewN ?_ _ | refine blk_drew ?_ | refine blk_alloc ?_ _)); exact BK303.out⟩, ⟨bq1_⟩⟩
  replace c9 := Bool.eq_false_iff.mpr c9
  subst c9
  rw [if_neg (show ¬ (false = true) by decide)] at H
  have H' := a0_ H
  clear H
  have hnb14 := NB302_303.out
  have hnc14 := NB303_302.out
  have z15_0 : w7.cell? ⟨gb302, 0, none⟩ = some (.int .i64 a0_0) := (blk_cell BK302.out 0).trans rfl
  have z15_1 : w7.cell? ⟨gb302, 1, none⟩ = some (.bool a0_1) := (blk_cell BK302.out 1).trans rfl
  have z15_2 : w7.cell? ⟨gb302, 2, none⟩ = some (.bool a0_2) := (blk_cell BK302.out 2).trans rfl
  have z15_3 : w7.cell? ⟨gb302, 3, none⟩ = some (.int .i64 a0_3) := (blk_cell BK302.out 3).trans rfl
  have z15_4 : w7.cell? ⟨gb302, 4, none⟩ = some (.string a0_4) := (blk_cell BK302.out 4).trans rfl
  have z15_5 : w7.cell? ⟨gb302, 5, none⟩ = some (.int .i64 a0_5) := (blk_cell BK302.out 5).trans rfl
  have z15_6 : w7.cell? ⟨gb302, 6, none⟩ = some (.slice A0_6 l0_6.length c0_6) := (blk_cell BK302.out 6).trans rfl
  have z15_7 : w7.cell? ⟨gb302, 7, none⟩ = some (.slice A0_7 l0_7.length c0_7) := (blk_cell BK302.out 7).trans rfl
  have q15_0 := blk_frozen BK302.out 0
  have q15_1 := blk_frozen BK302.out 1
  have q15_2 := blk_frozen BK302.out 2
  have q15_3 := blk_frozen BK302.out 3
  have q15_4 := blk_frozen BK302.out 4
  have q15_5 := blk_frozen BK302.out 5
  have q15_6 := blk_frozen BK302.out 6
  have q15_7 := blk_frozen BK302.out 7
  go_wp2_with (first | ((with_reducible refine gate_callee (f := 48) rfl ?_); refine goesL_ (some 11) rfl rfl Tryz.func48 (by kernel_rfl) rfl #[.agg #[.int .i64 a0_0, .bool a0_1, .bool a0_2, .int .i64 a0_3, .string a0_4, .int .i64 a0_5, .slice A0_6 l0_6.length c0_6, .slice A0_7 l0_7.length c0_7]] rfl argsS_ ?_; (with_reducible refine (spec_GoodMessage.calls k a0_0 a0_1 a0_2 a0_3 a0_4 a0_5 _ _ l0_6 _ _ l0_7 false _ ?side1 ?side2 ?side3 ?side4 A8.out).mono ?_); (case side1 => exact kC_ HR0_6.out HB.out); (case side2 => exact HC0_6.out); (case side3 => exact kC_ HR0_7.out HB.out); (case side4 => exact HC0_7.out); rintro e w16 ⟨rfl, hb⟩; refine ⟨_, rfl, ?_⟩; replace BK302 := a0_ (bkB_ BK302 hb); replace BK303 := a0_ (bkB_ BK303 hb); replace HB := a0_ (below_step bq1_ hb); (try clear hb); (try clear hb2); (try clear hk); (try clear hi)))
  go_meet
  case rel => exact ⟨_, (true), rs_, H', ⟨by first | omega | exact Nat.le_refl _⟩, ⟨by (with_reducible repeat (first | refine blk_drewN ?_ _ | refine blk_drew ?_ | refine blk_alloc ?_ _)); exact BK302.out⟩, ⟨by (with_reducible repeat (first | refine blk_drewN ?_ _ | refine blk_drew ?_ | refine blk_alloc ?_ _)); exact BK303.out⟩, ⟨bq1_⟩⟩
 case rest =>
  clear HC5
  try clear c1
  try clear c2
  try clear p2
  try clear c3
  try clear c4
  try clear c9
  try clear c10
  try clear c14
  try clear z11_0 z11_1 z11_2 z11_3 z11_4 z11_5 z11_6 z11_7
  try clear z13_0 z13_1 z13_2 z13_3 z13_4 z13_5 z13_6 z13_7
  try clear z15_0 z15_1 z15_2 z15_3 z15_4 z15_5 z15_6 z15_7
  try clear q11_0 q11_1 q11_2 q11_3 q11_4 q11_5 q11_6 q11_7
  try clear q13_0 q13_1 q13_2 q13_3 q13_4 q13_5 q13_6 q13_7
  try clear q15_0 q15_1 q15_2 q15_3 q15_4 q15_5 q15_6 q15_7
  obtain ⟨kq, x16_4, rfl, HA, HJ4, BK302, BK303, HB⟩ := hcut
  cases kq with
  | zero => exact absurd HA.out (by simp [spec_ReplyTo.j0])
  | succ kj4 =>
   have H := HA.out
   clear HA
   simp only [spec_ReplyTo.j0] at H
   by_cases c17 : x16_4 = true
   case pos =>
    subst c17
    rw [if_pos rfl] at H
    simp only [Option.some.injEq, Prod.mk.injEq] at H
    obtain ⟨rfl, rfl, rfl, rfl, rfl, rfl, rfl, rfl, rfl⟩ := H
    have hnb18 := NB303_302.out
    have hnc18 := NB302_303.out
    have z19_0 : wc.cell? ⟨gb303, 0, none⟩ = some (.int .i64 0) := (blk_cell BK303.out 0).trans rfl
    have z19_1 : wc.cell? ⟨gb303, 1, none⟩ = some (.bool false) := (blk_cell BK303.out 1).trans rfl
    have z19_2 : wc.cell? ⟨gb303, 2, none⟩ = some (.bool false) := (blk_cell BK303.out 2).trans rfl
    have z19_3 : wc.cell? ⟨gb303, 3, none⟩ = some (.int .i64 0) := (blk_cell BK303.out 3).trans rfl
    have z19_4 : wc.cell? ⟨gb303, 4, none⟩ = some (.string (⟨#[]⟩ : ByteArray)) := (blk_cell BK303.out 4).trans rfl
    have z19_5 : wc.cell? ⟨gb303, 5, none⟩ = some (.int .i64 0) := (blk_cell BK303.out 5).trans rfl
    have z19_6 : wc.cell? ⟨gb303, 6, none⟩ = some (.slice none 0 0) := (blk_cell BK303.out 6).trans rfl
    have z19_7 : wc.cell? ⟨gb303, 7, none⟩ = some (.slice none 0 0) := (blk_cell BK303.out 7).trans rfl
    have q19_0 := blk_frozen BK303.out 0
    have q19_1 := blk_frozen BK303.out 1
    have q19_2 := blk_frozen BK303.out 2
    have q19_3 := blk_frozen BK303.out 3
    have q19_4 := blk_frozen BK303.out 4
    have q19_5 := blk_frozen BK303.out 5
    have q19_6 := blk_frozen BK303.out 6
    have q19_7 := blk_frozen BK303.out 7
    go_wp2
    refine bodyPost_ret (results_ct rfl _ _ gb303 24 #[.int .i64 0, .bool false, .bool false, .int .i64 0, .string (⟨#[]⟩ : ByteArray), .int .i64 0, .slice none 0 0, .slice none 0 0] (0, 0) _ rfl (put8_ BK303.out) Tryz.underlying24 rfl (by kernel_rfl)) rfl ?_
    exact ⟨_, _, rr_, by first | exact Kd.R_nil _ _ _ _ _ | exact Kd.N_nil _ _ _ _ _ | exact Kd.V_nil _ _ _ _ _ | exact Kd.Q_nil _ _ _ _ _ | exact Kd.S_nil _ _ _ _ _, by first | exact Kd.R_nil _ _ _ _ _ | exact Kd.N_nil _ _ _ _ _ | exact Kd.V_nil _ _ _ _ _ | exact Kd.Q_nil _ _ _ _ _ | exact Kd.S_nil _ _ _ _ _, bq1_⟩
   replace c17 := Bool.eq_false_iff.mpr c17
   subst c17
   rw [if_neg (show ¬ (false = true) by decide)] at H
   obtain ⟨y305, hy305⟩ : ∃ y_ : List (S72), y_ = (([] : List (S72))) := ⟨_, rfl⟩
   replace H : (if y305.length + l2.length < 2932031007402 then ((some (y305 ++ l2 : List (S72))).bind fun y308 => ((some (([] : List (S72)) : List (S72))).bind fun y311 => (if y311.length + l3.length < 2932031007402 then ((some (y311 ++ l3 : List (S72))).bind fun y314 => ((spec_GoodMessage.f kj4 a0_0 true a0_2 a1 a0_4 a0_5 y308 y314).bind fun t317 => (if t317 = true then (some (a0_0, true, a0_2, a1, a0_4, a0_5, y308, y314, true)) else (some (0, false, false, 0, (⟨#[]⟩ : ByteArray), 0, ([] : List (S72)), ([] : List (S72)), false))))) else (none)))) else (none)) = some (r1, r2, r3, r4, r5, r6, r7, r8, r9) := by first | (rw [hy305]; with_reducible exact H) | (have H2_ := (Option.bind_some _ _).symm.trans H; rw [hy305]; with_reducible exact H2_) | (have H2_ := (Option.bind_some _ _).symm.trans H; with_reducible exact H2_) | with_reducible exact H | (rw [hy305]; exact H) | exact H
   have Ny305 := a0_ hy305
   clear hy305
   by_cases c20 : y305.length + l2.length < 2932031007402
   case neg =>
    rw [if_neg c20] at H
    exact absurd H (by simp)
   rw [if_pos c20] at H
   have LMc20 := a0_ c20
   clear c20
   obtain ⟨y308, hy308⟩ : ∃ y_ : List (S72), y_ = (y305 ++ l2) := ⟨_, rfl⟩
   replace H : ((some (([] : List (S72)) : List (S72))).bind fun y311 => (if y311.length + l3.length < 2932031007402 then ((some (y311 ++ l3 : List (S72))).bind fun y314 => ((spec_GoodMessage.f kj4 a0_0 true a0_2 a1 a0_4 a0_5 y308 y314).bind fun t317 => (if t317 = true then (some (a0_0, true, a0_2, a1, a0_4, a0_5, y308, y314, true)) else (some (0, false, false, 0, (⟨#[]⟩ : ByteArray), 0, ([] : List (S72)), ([] : List (S72)), false))))) else (none))) = some (r1, r2, r3, r4, r5, r6, r7, r8, r9) := by first | (rw [hy308]; with_reducible exact H) | (have H2_ := (Option.bind_some _ _).symm.trans H; rw [hy308]; with_reducible exact H2_) | (have H2_ := (Option.bind_some _ _).symm.trans H; with_reducible exact H2_) | with_reducible exact H | (rw [hy308]; exact H) | exact H
   have Ny308 := a0_ hy308
   clear hy308
   obtain ⟨y311, hy311⟩ : ∃ y_ : List (S72), y_ = (([] : List (S72))) := ⟨_, rfl⟩
   replace H : (if y311.length + l3.length < 2932031007402 then ((some (y311 ++ l3 : List (S72))).bind fun y314 => ((spec_GoodMessage.f kj4 a0_0 true a0_2 a1 a0_4 a0_5 y308 y314).bind fun t317 => (if t317 = true then (some (a0_0, true, a0_2, a1, a0_4, a0_5, y308, y314, true)) else (some (0, false, false, 0, (⟨#[]⟩ : ByteArray), 0, ([] : List (S72)), ([] : List (S72)), false))))) else (none)) = some (r1, r2, r3, r4, r5, r6, r7, r8, r9) := by first | (rw [hy311]; with_reducible exact H) | (have H2_ := (Option.bind_some _ _).symm.trans H; rw [hy311]; with_reducible exact H2_) | (have H2_ := (Option.bind_some _ _).symm.trans H; with_reducible exact H2_) | with_reducible exact H | (rw [hy311]; exact H) | exact H
   have Ny311 := a0_ hy311
   clear hy311
   by_cases c21 : y311.length + l3.length < 2932031007402
   case neg =>
    rw [if_neg c21] at H
    exact absurd H (by simp)
   rw [if_pos c21] at H
   have LMc21 := a0_ c21
   clear c21
   obtain ⟨y314, hy314⟩ : ∃ y_ : List (S72), y_ = (y311 ++ l3) := ⟨_, rfl⟩
   replace H : ((spec_GoodMessage.f kj4 a0_0 true a0_2 a1 a0_4 a0_5 y308 y314).bind fun t317 => (if t317 = true then (some (a0_0, true, a0_2, a1, a0_4, a0_5, y308, y314, true)) else (some (0, false, false, 0, (⟨#[]⟩ : ByteArray), 0, ([] : List (S72)), ([] : List (S72)), false)))) = some (r1, r2, r3, r4, r5, r6, r7, r8, r9) := by first | (rw [hy314]; with_reducible exact H) | (have H2_ := (Option.bind_some _ _).symm.trans H; rw [hy314]; with_reducible exact H2_) | (have H2_ := (Option.bind_some _ _).symm.trans H; with_reducible exact H2_) | with_reducible exact H | (rw [hy314]; exact H) | exact H
   have Ny314 := a0_ hy314
   clear hy314
   obtain ⟨t317, A220, H⟩ := Option.bind_eq_some_iff.mp H
   have A22 := a0_ A220
   clear A220
   by_cases c23 : t317 = true
   case pos =>
    subst c23
    rw [if_pos rfl] at H
    simp only [Option.some.injEq, Prod.mk.injEq] at H
    obtain ⟨rfl, rfl, rfl, rfl, rfl, rfl, rfl, rfl, rfl⟩ := H
    have hnb24 := NB302_303.out
    have hnc24 := NB303_302.out
    have z25_0 : wc.cell? ⟨gb302, 0, none⟩ = some (.int .i64 a0_0) := (blk_cell BK302.out 0).trans rfl
    have z25_1 : wc.cell? ⟨gb302, 1, none⟩ = some (.bool a0_1) := (blk_cell BK302.out 1).trans rfl
    have z25_2 : wc.cell? ⟨gb302, 2, none⟩ = some (.bool a0_2) := (blk_cell BK302.out 2).trans rfl
    have z25_3 : wc.cell? ⟨gb302, 3, none⟩ = some (.int .i64 a0_3) := (blk_cell BK302.out 3).trans rfl
    have z25_4 : wc.cell? ⟨gb302, 4, none⟩ = some (.string a0_4) := (blk_cell BK302.out 4).trans rfl
    have z25_5 : wc.cell? ⟨gb302, 5, none⟩ = some (.int .i64 a0_5) := (blk_cell BK302.out 5).trans rfl
    have z25_6 : wc.cell? ⟨gb302, 6, none⟩ = some (.slice A0_6 l0_6.length c0_6) := (blk_cell BK302.out 6).trans rfl
    have z25_7 : wc.cell? ⟨gb302, 7, none⟩ = some (.slice A0_7 l0_7.length c0_7) := (blk_cell BK302.out 7).trans rfl
    have q25_0 := blk_frozen BK302.out 0
    have q25_1 := blk_frozen BK302.out 1
    have q25_2 := blk_frozen BK302.out 2
    have q25_3 := blk_frozen BK302.out 3
    have q25_4 := blk_frozen BK302.out 4
    have q25_5 := blk_frozen BK302.out 5
    have q25_6 := blk_frozen BK302.out 6
    have q25_7 := blk_frozen BK302.out 7
    go_wp2_with (first | ((with_reducible refine gate_dst (N := 21) rfl ?_); refine Kd.R_lit k72 _ 72 ?hg (N := 21) ?hd (xs := ([] : List (S72))) (inner := []) (ok := fun _ => True) (okp := fun _ => True) ?hr ?hp (fun _ hk => hk) trivial (Below.refl _ _) (Nat.le_refl _) (by simp) ?_; (case hd => rfl); (case hg => rfl); (case hr => first | (go_simp; done) | (go_simp; rfl)); (case hp => exact (Reps.none _ _)); intro v306 w26 ho27 hb hg_ hnew_; clear hg_ hnew_; (first | rw [← Ny305.out] at ho27 | (simp only [Int.reduceToNat] at ho27; rw [← Ny305.out] at ho27)); have HO307 := a0_ (Kd.R_lower ho27 (below_size bq1_)); replace BK302 := a0_ (blk_below (g := gb302) (o := .cells #[.int .i64 a0_0, .bool true, .bool a0_2, .int .i64 a1, .string a0_4, .int .i64 a0_5, .slice A0_6 l0_6.length c0_6, .slice A0_7 l0_7.length c0_7] 24 (0, 0)) (by (with_reducible repeat (first | refine blk_drewN ?_ _ | refine blk_drew ?_ | refine blk_alloc ?_ _)); refine blk_put (cs := #[.int .i64 a0_0, .bool true, .bool a0_2, .int .i64 a0_3, .string a0_4, .int .i64 a0_5, .slice A0_6 l0_6.length c0_6, .slice A0_7 l0_7.length c0_7]) ?_ 3 _ rfl; (with_reducible repeat (first | refine blk_drewN ?_ _ | refine blk_drew ?_ | refine blk_alloc ?_ _)); refine blk_put (cs := #[.int .i64 a0_0, .bool a0_1, .bool a0_2, .int .i64 a0_3, .string a0_4, .int .i64 a0_5, .slice A0_6 l0_6.length c0_6, .slice A0_7 l0_7.length c0_7]) ?_ 1 _ rfl; (with_reducible repeat (first | refine blk_drewN ?_ _ | refine blk_drew ?_ | refine blk_alloc ?_ _)); exact BK302.out) hb); replace BK303 := a0_ (blk_below (g := gb303) (o := .cells #[.int .i64 0, .bool false, .bool false, .int .i64 0, .string (⟨#[]⟩ : ByteArray), .int .i64 0, .slice none 0 0, .slice none 0 0] 24 (0, 0)) (bfar2_ NB303_302.out BK303.out) hb); replace HB := a0_ (below_step bq1_ hb); clear hb ho27) | ((with_reducible refine gate_builtin (b := .append) (xs := #[.tmp 21, .tmp 22]) rfl ?_); at_builtin; refine Kd.R_append_rows k72 (w0 := w) w.heap.size rfl (.tmp 21) (.tmp 22) 22 72 (.agg #[(.string ⟨#[]⟩), (.int .i64 0), (.int .i64 0), (.string ⟨#[]⟩)]) 48 rfl Tryz.underlying22 info72 rfl (by decide) (by omega) v306 y305 l2 _ _ _ (fun _ => True) (fun _ => False) rfl rfl ?aO ?aR (fun _ _ h => h) (fun _ h => h.elim) ?aF ?aB ?aS ?aL ?_; (case aR => repeat (first | exact (Kd.C_below HR2.out HB.out) | (with_reducible refine Kd.C_alloc ?_ _) | (with_reducible refine Kd.C_drewN ?_ _) | (with_reducible refine Kd.C_drew ?_))); (case aB => exact bq1_); (case aF => exact (fun _ _ => trivial)); (case aO => exact (kR_ HO307.out)); (case aS => exact (below_size bq1_)); (case aL => have := LMc20.out; omega); intro v309 w28 ho hb hg hat; rw [← Ny308.out] at ho; have n0_ := a0_ (blk_grown (g := gb302) (o := .cells #[.int .i64 a0_0, .bool true, .bool a0_2, .int .i64 a1, .string a0_4, .int .i64 a0_5, .slice A0_6 l0_6.length c0_6, .slice A0_7 l0_7.length c0_7] 24 (0, 0)) (kB_ BK302.out) hg (Kd.R_ne HO307.out BK302.out (by decide))); have n1_ := a0_ (blk_grown (g := gb303) (o := .cells #[.int .i64 0, .bool false, .bool false, .int .i64 0, .string (⟨#[]⟩ : ByteArray), .int .i64 0, .slice none 0 0, .slice none 0 0] 24 (0, 0)) (kB_ BK303.out) hg (Kd.R_ne HO307.out BK303.out (by decide))); have n2_ := a0_ (hb); have n3_ := a0_ (ho); clear BK302; clear BK303; clear HB; clear HO307; have BK302 := n0_; have BK303 := n1_; have HB := n2_; have HO310 := n3_; clear n0_ n1_ n2_ n3_; clear ho hb hg hat; obtain ⟨Ao29, co29, eo29⟩ := Kd.R_slice HO310.out; subst eo29; obtain ⟨z30_0, z30_1, z30_2, z30_3, z30_4, z30_5, z30_6, z30_7, q30_0, q30_1, q30_2, q30_3, q30_4, q30_5, q30_6, q30_7⟩ := bk8_ BK302.out) | ((with_reducible refine gate_dst (N := 25) rfl ?_); refine Kd.R_lit k72 _ 72 ?hg (N := 25) ?hd (xs := ([] : List (S72))) (inner := []) (ok := fun _ => True) (okp := fun _ => True) ?hr ?hp (fun _ hk => hk) trivial (Below.refl _ _) (Nat.le_refl _) (by simp) ?_; (case hd => rfl); (case hg => rfl); (case hr => first | (go_simp; done) | (go_simp; rfl)); (case hp => exact (Reps.none _ _)); intro v312 w31 ho32 hb hg_ hnew_; clear hg_ hnew_; (first | rw [← Ny311.out] at ho32 | (simp only [Int.reduceToNat] at ho32; rw [← Ny311.out] at ho32)); have n0_ := a0_ (Kd.R_elder' (kR_ (Kd.R_mono (Kd.R_far (p := ⟨gb302, 6, none⟩) (Kd.R_types HO310.out BK302.out (by decide)) (fun _ hk => hk.2) (.slice Ao29 y308.length co29)) (fun _ h_ => h_.1))) (Kd.R_base ho32) hb); have n1_ := a0_ (Kd.R_lower (Kd.R_new' ho32 (Kd.R_lt (kR_ (Kd.R_mono (Kd.R_far (p := ⟨gb302, 6, none⟩) (Kd.R_types HO310.out BK302.out (by decide)) (fun _ hk => hk.2) (.slice Ao29 y308.length co29)) (fun _ h_ => h_.1))))) (below_size bq1_)); have n2_ := a0_ (blk_below (g := gb302) (o := .cells #[.int .i64 a0_0, .bool true, .bool a0_2, .int .i64 a1, .string a0_4, .int .i64 a0_5, .slice Ao29 y308.length co29, .slice A0_7 l0_7.length c0_7] 24 (0, 0)) (by (with_reducible repeat (first | refine blk_drewN ?_ _ | refine blk_drew ?_ | refine blk_alloc ?_ _)); refine blk_put (cs := #[.int .i64 a0_0, .bool true, .bool a0_2, .int .i64 a1, .string a0_4, .int .i64 a0_5, .slice A0_6 l0_6.length c0_6, .slice A0_7 l0_7.length c0_7]) ?_ 6 _ rfl; (with_reducible repeat (first | refine blk_drewN ?_ _ | refine blk_drew ?_ | refine blk_alloc ?_ _)); exact BK302.out) hb); have n3_ := a0_ (blk_below (g := gb303) (o := .cells #[.int .i64 0, .bool false, .bool false, .int .i64 0, .string (⟨#[]⟩ : ByteArray), .int .i64 0, .slice none 0 0, .slice none 0 0] 24 (0, 0)) (by (with_reducible repeat (first | refine blk_drewN ?_ _ | refine blk_drew ?_ | refine blk_alloc ?_ _)); refine blk_far ?_ NB303_302.out _; (with_reducible repeat (first | refine blk_drewN ?_ _ | refine blk_drew ?_ | refine blk_alloc ?_ _)); exact BK303.out) hb); have n4_ := a0_ (below_step bq1_ hb); clear HO310; clear BK302; clear BK303; clear HB; have HO310 := n0_; have HO313 := n1_; have BK302 := n2_; have BK303 := n3_; have HB := n4_; clear n0_ n1_ n2_ n3_ n4_; clear hb ho32) | ((with_reducible refine gate_builtin (b := .append) (xs := #[.tmp 25, .tmp 26]) rfl ?_); at_builtin; refine Kd.R_append_rows k72 (w0 := w) w.heap.size rfl (.tmp 25) (.tmp 26) 22 72 (.agg #[(.string ⟨#[]⟩), (.int .i64 0), (.int .i64 0), (.string ⟨#[]⟩)]) 48 rfl Tryz.underlying22 info72 rfl (by decide) (by omega) v312 y311 l3 _ _ _ (fun k_ => nw_ k_ Ao29 y308.length co29) (fun _ => False) rfl rfl ?aO ?aR (fun _ _ h => h) (fun _ h => h.elim) ?aF ?aB ?aS ?aL ?_; (case aR => repeat (first | exact (Kd.C_below HR3.out HB.out) | (with_reducible refine Kd.C_alloc ?_ _) | (with_reducible refine Kd.C_drewN ?_ _) | (with_reducible refine Kd.C_drew ?_))); (case aB => exact bq1_); (case aF => exact (fun k_ hk => Kd.fresh' (Kd.R_lt (kR_ HO310.out)) k_ hk)); (case aO => exact (kR_ (Kd.R_mono HO313.out (fun _ hk => hk.2)))); (case aS => exact (below_size bq1_)); (case aL => have := LMc21.out; omega); intro v315 w33 ho hb hg hat; rw [← Ny314.out] at ho; have n0_ := a0_ (blk_grown (g := gb302) (o := .cells #[.int .i64 a0_0, .bool true, .bool a0_2, .int .i64 a1, .string a0_4, .int .i64 a0_5, .slice Ao29 y308.length co29, .slice A0_7 l0_7.length c0_7] 24 (0, 0)) (kB_ BK302.out) hg (Kd.R_ne HO313.out BK302.out (by decide))); have n1_ := a0_ (blk_grown (g := gb303) (o := .cells #[.int .i64 0, .bool false, .bool false, .int .i64 0, .string (⟨#[]⟩ : ByteArray), .int .i64 0, .slice none 0 0, .slice none 0 0] 24 (0, 0)) (kB_ BK303.out) hg (Kd.R_ne HO313.out BK303.out (by decide))); have n2_ := a0_ (Kd.R_after (ok := (fun _ => True)) (kR_ HO310.out) hg hat); have n3_ := a0_ (hb); have n4_ := a0_ (ho); clear BK302; clear BK303; clear HO310; clear HB; clear HO313; have BK302 := n0_; have BK303 := n1_; have HO310 := n2_; have HB := n3_; have HO316 := n4_; clear n0_ n1_ n2_ n3_ n4_; clear ho hb hg hat; obtain ⟨Ao34, co34, eo34⟩ := Kd.R_slice HO316.out; subst eo34; obtain ⟨z35_0, z35_1, z35_2, z35_3, z35_4, z35_5, z35_6, z35_7, q35_0, q35_1, q35_2, q35_3, q35_4, q35_5, q35_6, q35_7⟩ := bk8_ BK302.out) | ((with_reducible refine gate_callee (f := 48) rfl ?_); refine goesL_ (some 30) rfl rfl Tryz.func48 (by kernel_rfl) rfl #[.agg #[.int .i64 a0_0, .bool true, .bool a0_2, .int .i64 a1, .string a0_4, .int .i64 a0_5, .slice Ao29 y308.length co29, .slice Ao34 y314.length co34]] rfl argsS_ ?_; (with_reducible refine (spec_GoodMessage.calls kj4 a0_0 true a0_2 a1 a0_4 a0_5 _ _ y308 _ _ y314 true _ ?side1 ?side2 ?side3 ?side4 A22.out).mono ?_); (case side1 => refine (Kd.R_reads' (e := 72) (base := w.heap.size) (ok := fun k_ => (True ∧ nw_ k_ Ao34 y314.length co34)) (n := y308.length) (c := co29) ?_).2.2; exact (kR_ (Kd.R_mono (Kd.R_far (p := ⟨gb302, 7, none⟩) (Kd.R_types HO310.out BK302.out (by decide)) (fun _ hk => hk.2) (.slice Ao34 y314.length co34)) (fun _ h_ => h_.1)))); (case side2 => exact (Kd.R_reads' HO310.out).2.1); (case side3 => refine (Kd.R_reads' (e := 72) (base := w.heap.size) (ok := fun k_ => nw_ k_ Ao29 y308.length co29) (n := y314.length) (c := co34) ?_).2.2; exact (kR_ (Kd.R_mono (Kd.R_far (p := ⟨gb302, 7, none⟩) (Kd.R_types HO316.out BK302.out (by decide)) (fun _ hk => hk.2) (.slice Ao34 y314.length co34)) (fun _ h_ => h_.1)))); (case side4 => exact (Kd.R_reads' HO316.out).2.1); rintro e w36 ⟨rfl, hb⟩; refine ⟨_, rfl, ?_⟩; replace HO310 := a0_ (Kd.R_below (kR_ (Kd.R_mono (Kd.R_far (p := ⟨gb302, 7, none⟩) (Kd.R_types HO310.out BK302.out (by decide)) (fun _ hk => hk.2) (.slice Ao34 y314.length co34)) (fun _ h_ => h_.1))) hb); replace HO316 := a0_ (Kd.R_below (kR_ (Kd.R_mono (Kd.R_far (p := ⟨gb302, 7, none⟩) (Kd.R_types HO316.out BK302.out (by decide)) (fun _ hk => hk.2) (.slice Ao34 y314.length co34)) (fun _ h_ => h_.1))) hb); replace BK302 := a0_ (blk_below (g := gb302) (o := .cells #[.int .i64 a0_0, .bool true, .bool a0_2, .int .i64 a1, .string a0_4, .int .i64 a0_5, .slice Ao29 y308.length co29, .slice Ao34 y314.length co34] 24 (0, 0)) (by (with_reducible repeat (first | refine blk_drewN ?_ _ | refine blk_drew ?_ | refine blk_alloc ?_ _)); refine blk_put (cs := #[.int .i64 a0_0, .bool true, .bool a0_2, .int .i64 a1, .string a0_4, .int .i64 a0_5, .slice Ao29 y308.length co29, .slice A0_7 l0_7.length c0_7]) ?_ 7 _ rfl; (with_reducible repeat (first | refine blk_drewN ?_ _ | refine blk_drew ?_ | refine blk_alloc ?_ _)); exact BK302.out) hb); replace BK303 := a0_ (blk_below (g := gb303) (o := .cells #[.int .i64 0, .bool false, .bool false, .int .i64 0, .string (⟨#[]⟩ : ByteArray), .int .i64 0, .slice none 0 0, .slice none 0 0] 24 (0, 0)) (by (with_reducible repeat (first | refine blk_drewN ?_ _ | refine blk_drew ?_ | refine blk_alloc ?_ _)); refine blk_far ?_ NB303_302.out _; (with_reducible repeat (first | refine blk_drewN ?_ _ | refine blk_drew ?_ | refine blk_alloc ?_ _)); exact BK303.out) hb); replace HB := a0_ (below_step bq1_ hb); (try clear hb); (try clear hb2); (try clear hk); (try clear hi); obtain ⟨z37_0, z37_1, z37_2, z37_3, z37_4, z37_5, z37_6, z37_7, q37_0, q37_1, q37_2, q37_3, q37_4, q37_5, q37_6, q37_7⟩ := bk8_ BK302.out; obtain ⟨z38_0, z38_1, z38_2, z38_3, z38_4, z38_5, z38_6, z38_7, q38_0, q38_1, q38_2, q38_3, q38_4, q38_5, q38_6, q38_7⟩ := bk8_ BK303.out))
    refine bodyPost_ret (results_ct rfl _ _ gb303 24 #[.int .i64 a0_0, .bool true, .bool a0_2, .int .i64 a1, .string a0_4, .int .i64 a0_5, .slice Ao29 y308.length co29, .slice Ao34 y314.length co34] (0, 0) _ rfl (put8_ BK303.out) Tryz.underlying24 rfl (by kernel_rfl)) rfl ?_
    exact ⟨_, _, rr_, by (with_reducible repeat (first | apply Kd.R_alloc | apply Kd.R_drewN | apply Kd.R_drew)); exact Kd.R_mono (Kd.R_far (p := ⟨gb303, 7, none⟩) (Kd.R_far (p := ⟨gb303, 6, none⟩) (Kd.R_far (p := ⟨gb303, 5, none⟩) (Kd.R_far (p := ⟨gb303, 4, none⟩) (Kd.R_far (p := ⟨gb303, 3, none⟩) (Kd.R_far (p := ⟨gb303, 2, none⟩) (Kd.R_far (p := ⟨gb303, 1, none⟩) (Kd.R_far (p := ⟨gb303, 0, none⟩) (Kd.R_types HO310.out BK303.out (by decide)) (fun _ hk => hk.2) (.int .i64 a0_0)) (fun _ hk => hk.2) (.bool true)) (fun _ hk => hk.2) (.bool a0_2)) (fun _ hk => hk.2) (.int .i64 a1)) (fun _ hk => hk.2) (.string a0_4)) (fun _ hk => hk.2) (.int .i64 a0_5)) (fun _ hk => hk.2) (.slice Ao29 y308.length co29)) (fun _ hk => hk.2) (.slice Ao34 y314.length co34)) (fun _ hk => hk.1.2), by (with_reducible repeat (first | apply Kd.R_alloc | apply Kd.R_drewN | apply Kd.R_drew)); exact Kd.R_mono (Kd.R_far (p := ⟨gb303, 7, none⟩) (Kd.R_far (p := ⟨gb303, 6, none⟩) (Kd.R_far (p := ⟨gb303, 5, none⟩) (Kd.R_far (p := ⟨gb303, 4, none⟩) (Kd.R_far (p := ⟨gb303, 3, none⟩) (Kd.R_far (p := ⟨gb303, 2, none⟩) (Kd.R_far (p := ⟨gb303, 1, none⟩) (Kd.R_far (p := ⟨gb303, 0, none⟩) (Kd.R_types HO316.out BK303.out (by decide)) (fun _ hk => hk.2) (.int .i64 a0_0)) (fun _ hk => hk.2) (.bool true)) (fun _ hk => hk.2) (.bool a0_2)) (fun _ hk => hk.2) (.int .i64 a1)) (fun _ hk => hk.2) (.string a0_4)) (fun _ hk => hk.2) (.int .i64 a0_5)) (fun _ hk => hk.2) (.slice Ao29 y308.length co29)) (fun _ hk => hk.2) (.slice Ao34 y314.length co34)) (fun _ hk => hk.1), bq1_⟩
   replace c23 := Bool.eq_false_iff.mpr c23
   subst c23
   rw [if_neg (show ¬ (false = true) by decide)] at H
   simp only [Option.some.injEq, Prod.mk.injEq] at H
   obtain ⟨rfl, rfl, rfl, rfl, rfl, rfl, rfl, rfl, rfl⟩ := H
   have hnb39 := NB302_303.out
   have hnc39 := NB303_302.out
   have z40_0 : wc.cell? ⟨gb302, 0, none⟩ = some (.int .i64 a0_0) := (blk_cell BK302.out 0).trans rfl
   have z40_1 : wc.cell? ⟨gb302, 1, none⟩ = some (.bool a0_1) := (blk_cell BK302.out 1).trans rfl
   have z40_2 : wc.cell? ⟨gb302, 2, none⟩ = some (.bool a0_2) := (blk_cell BK302.out 2).trans rfl
   have z40_3 : wc.cell? ⟨gb302, 3, none⟩ = some (.int .i64 a0_3) := (blk_cell BK302.out 3).trans rfl
   have z40_4 : wc.cell? ⟨gb302, 4, none⟩ = some (.string a0_4) := (blk_cell BK302.out 4).trans rfl
   have z40_5 : wc.cell? ⟨gb302, 5, none⟩ = some (.int .i64 a0_5) := (blk_cell BK302.out 5).trans rfl
   have z40_6 : wc.cell? ⟨gb302, 6, none⟩ = some (.slice A0_6 l0_6.length c0_6) := (blk_cell BK302.out 6).trans rfl
   have z40_7 : wc.cell? ⟨gb302, 7, none⟩ = some (.slice A0_7 l0_7.length c0_7) := (blk_cell BK302.out 7).trans rfl
   have q40_0 := blk_frozen BK302.out 0
   have q40_1 := blk_frozen BK302.out 1
   have q40_2 := blk_frozen BK302.out 2
   have q40_3 := blk_frozen BK302.out 3
   have q40_4 := blk_frozen BK302.out 4
   have q40_5 := blk_frozen BK302.out 5
   have q40_6 := blk_frozen BK302.out 6
   have q40_7 := blk_frozen BK302.out 7
   go_wp2_with (first | ((with_reducible refine gate_dst (N := 21) rfl ?_); refine Kd.R_lit k72 _ 72 ?hg (N := 21) ?hd (xs := ([] : List (S72))) (inner := []) (ok := fun _ => True) (okp := fun _ => True) ?hr ?hp (fun _ hk => hk) trivial (Below.refl _ _) (Nat.le_refl _) (by simp) ?_; (case hd => rfl); (case hg => rfl); (case hr => first | (go_simp; done) | (go_simp; rfl)); (case hp => exact (Reps.none _ _)); intro v306 w41 ho42 hb hg_ hnew_; clear hg_ hnew_; (first | rw [← Ny305.out] at ho42 | (simp only [Int.reduceToNat] at ho42; rw [← Ny305.out] at ho42)); have HO307 := a0_ (Kd.R_lower ho42 (below_size bq1_)); replace BK302 := a0_ (blk_below (g := gb302) (o := .cells #[.int .i64 a0_0, .bool true, .bool a0_2, .int .i64 a1, .string a0_4, .int .i64 a0_5, .slice A0_6 l0_6.length c0_6, .slice A0_7 l0_7.length c0_7] 24 (0, 0)) (by (with_reducible repeat (first | refine blk_drewN ?_ _ | refine blk_drew ?_ | refine blk_alloc ?_ _)); refine blk_put (cs := #[.int .i64 a0_0, .bool true, .bool a0_2, .int .i64 a0_3, .string a0_4, .int .i64 a0_5, .slice A0_6 l0_6.length c0_6, .slice A0_7 l0_7.length c0_7]) ?_ 3 _ rfl; (with_reducible repeat (first | refine blk_drewN ?_ _ | refine blk_drew ?_ | refine blk_alloc ?_ _)); refine blk_put (cs := #[.int .i64 a0_0, .bool a0_1, .bool a0_2, .int .i64 a0_3, .string a0_4, .int .i64 a0_5, .slice A0_6 l0_6.length c0_6, .slice A0_7 l0_7.length c0_7]) ?_ 1 _ rfl; (with_reducible repeat (first | refine blk_drewN ?_ _ | refine blk_drew ?_ | refine blk_alloc ?_ _)); exact BK302.out) hb); replace BK303 := a0_ (blk_below (g := gb303) (o := .cells #[.int .i64 0, .bool false, .bool false, .int .i64 0, .string (⟨#[]⟩ : ByteArray), .int .i64 0, .slice none 0 0, .slice none 0 0] 24 (0, 0)) (bfar2_ NB303_302.out BK303.out) hb); replace HB := a0_ (below_step bq1_ hb); clear hb ho42) | ((with_reducible refine gate_builtin (b := .append) (xs := #[.tmp 21, .tmp 22]) rfl ?_); at_builtin; refine Kd.R_append_rows k72 (w0 := w) w.heap.size rfl (.tmp 21) (.tmp 22) 22 72 (.agg #[(.string ⟨#[]⟩), (.int .i64 0), (.int .i64 0), (.string ⟨#[]⟩)]) 48 rfl Tryz.underlying22 info72 rfl (by decide) (by omega) v306 y305 l2 _ _ _ (fun _ => True) (fun _ => False) rfl rfl ?aO ?aR (fun _ _ h => h) (fun _ h => h.elim) ?aF ?aB ?aS ?aL ?_; (case aR => repeat (first | exact (Kd.C_below HR2.out HB.out) | (with_reducible refine Kd.C_alloc ?_ _) | (with_reducible refine Kd.C_drewN ?_ _) | (with_reducible refine Kd.C_drew ?_))); (case aB => exact bq1_); (case aF => exact (fun _ _ => trivial)); (case aO => exact (kR_ HO307.out)); (case aS => exact (below_size bq1_)); (case aL => have := LMc20.out; omega); intro v309 w43 ho hb hg hat; rw [← Ny308.out] at ho; have n0_ := a0_ (blk_grown (g := gb302) (o := .cells #[.int .i64 a0_0, .bool true, .bool a0_2, .int .i64 a1, .string a0_4, .int .i64 a0_5, .slice A0_6 l0_6.length c0_6, .slice A0_7 l0_7.length c0_7] 24 (0, 0)) (kB_ BK302.out) hg (Kd.R_ne HO307.out BK302.out (by decide))); have n1_ := a0_ (blk_grown (g := gb303) (o := .cells #[.int .i64 0, .bool false, .bool false, .int .i64 0, .string (⟨#[]⟩ : ByteArray), .int .i64 0, .slice none 0 0, .slice none 0 0] 24 (0, 0)) (kB_ BK303.out) hg (Kd.R_ne HO307.out BK303.out (by decide))); have n2_ := a0_ (hb); have n3_ := a0_ (ho); clear BK302; clear BK303; clear HB; clear HO307; have BK302 := n0_; have BK303 := n1_; have HB := n2_; have HO310 := n3_; clear n0_ n1_ n2_ n3_; clear ho hb hg hat; obtain ⟨Ao44, co44, eo44⟩ := Kd.R_slice HO310.out; subst eo44; obtain ⟨z45_0, z45_1, z45_2, z45_3, z45_4, z45_5, z45_6, z45_7, q45_0, q45_1, q45_2, q45_3, q45_4, q45_5, q45_6, q45_7⟩ := bk8_ BK302.out) | ((with_reducible refine gate_dst (N := 25) rfl ?_); refine Kd.R_lit k72 _ 72 ?hg (N := 25) ?hd (xs := ([] : List (S72))) (inner := []) (ok := fun _ => True) (okp := fun _ => True) ?hr ?hp (fun _ hk => hk) trivial (Below.refl _ _) (Nat.le_refl _) (by simp) ?_; (case hd => rfl); (case hg => rfl); (case hr => first | (go_simp; done) | (go_simp; rfl)); (case hp => exact (Reps.none _ _)); intro v312 w46 ho47 hb hg_ hnew_; clear hg_ hnew_; (first | rw [← Ny311.out] at ho47 | (simp only [Int.reduceToNat] at ho47; rw [← Ny311.out] at ho47)); have n0_ := a0_ (Kd.R_elder' (kR_ (Kd.R_mono (Kd.R_far (p := ⟨gb302, 6, none⟩) (Kd.R_types HO310.out BK302.out (by decide)) (fun _ hk => hk.2) (.slice Ao44 y308.length co44)) (fun _ h_ => h_.1))) (Kd.R_base ho47) hb); have n1_ := a0_ (Kd.R_lower (Kd.R_new' ho47 (Kd.R_lt (kR_ (Kd.R_mono (Kd.R_far (p := ⟨gb302, 6, none⟩) (Kd.R_types HO310.out BK302.out (by decide)) (fun _ hk => hk.2) (.slice Ao44 y308.length co44)) (fun _ h_ => h_.1))))) (below_size bq1_)); have n2_ := a0_ (blk_below (g := gb302) (o := .cells #[.int .i64 a0_0, .bool true, .bool a0_2, .int .i64 a1, .string a0_4, .int .i64 a0_5, .slice Ao44 y308.length co44, .slice A0_7 l0_7.length c0_7] 24 (0, 0)) (by (with_reducible repeat (first | refine blk_drewN ?_ _ | refine blk_drew ?_ | refine blk_alloc ?_ _)); refine blk_put (cs := #[.int .i64 a0_0, .bool true, .bool a0_2, .int .i64 a1, .string a0_4, .int .i64 a0_5, .slice A0_6 l0_6.length c0_6, .slice A0_7 l0_7.length c0_7]) ?_ 6 _ rfl; (with_reducible repeat (first | refine blk_drewN ?_ _ | refine blk_drew ?_ | refine blk_alloc ?_ _)); exact BK302.out) hb); have n3_ := a0_ (blk_below (g := gb303) (o := .cells #[.int .i64 0, .bool false, .bool false, .int .i64 0, .string (⟨#[]⟩ : ByteArray), .int .i64 0, .slice none 0 0, .slice none 0 0] 24 (0, 0)) (by (with_reducible repeat (first | refine blk_drewN ?_ _ | refine blk_drew ?_ | refine blk_alloc ?_ _)); refine blk_far ?_ NB303_302.out _; (with_reducible repeat (first | refine blk_drewN ?_ _ | refine blk_drew ?_ | refine blk_alloc ?_ _)); exact BK303.out) hb); have n4_ := a0_ (below_step bq1_ hb); clear HO310; clear BK302; clear BK303; clear HB; have HO310 := n0_; have HO313 := n1_; have BK302 := n2_; have BK303 := n3_; have HB := n4_; clear n0_ n1_ n2_ n3_ n4_; clear hb ho47) | ((with_reducible refine gate_builtin (b := .append) (xs := #[.tmp 25, .tmp 26]) rfl ?_); at_builtin; refine Kd.R_append_rows k72 (w0 := w) w.heap.size rfl (.tmp 25) (.tmp 26) 22 72 (.agg #[(.string ⟨#[]⟩), (.int .i64 0), (.int .i64 0), (.string ⟨#[]⟩)]) 48 rfl Tryz.underlying22 info72 rfl (by decide) (by omega) v312 y311 l3 _ _ _ (fun k_ => nw_ k_ Ao44 y308.length co44) (fun _ => False) rfl rfl ?aO ?aR (fun _ _ h => h) (fun _ h => h.elim) ?aF ?aB ?aS ?aL ?_; (case aR => repeat (first | exact (Kd.C_below HR3.out HB.out) | (with_reducible refine Kd.C_alloc ?_ _) | (with_reducible refine Kd.C_drewN ?_ _) | (with_reducible refine Kd.C_drew ?_))); (case aB => exact bq1_); (case aF => exact (fun k_ hk => Kd.fresh' (Kd.R_lt (kR_ HO310.out)) k_ hk)); (case aO => exact (kR_ (Kd.R_mono HO313.out (fun _ hk => hk.2)))); (case aS => exact (below_size bq1_)); (case aL => have := LMc21.out; omega); intro v315 w48 ho hb hg hat; rw [← Ny314.out] at ho; have n0_ := a0_ (blk_grown (g := gb302) (o := .cells #[.int .i64 a0_0, .bool true, .bool a0_2, .int .i64 a1, .string a0_4, .int .i64 a0_5, .slice Ao44 y308.length co44, .slice A0_7 l0_7.length c0_7] 24 (0, 0)) (kB_ BK302.out) hg (Kd.R_ne HO313.out BK302.out (by decide))); have n1_ := a0_ (blk_grown (g := gb303) (o := .cells #[.int .i64 0, .bool false, .bool false, .int .i64 0, .string (⟨#[]⟩ : ByteArray), .int .i64 0, .slice none 0 0, .slice none 0 0] 24 (0, 0)) (kB_ BK303.out) hg (Kd.R_ne HO313.out BK303.out (by decide))); have n2_ := a0_ (Kd.R_after (ok := (fun _ => True)) (kR_ HO310.out) hg hat); have n3_ := a0_ (hb); have n4_ := a0_ (ho); clear BK302; clear BK303; clear HO310; clear HB; clear HO313; have BK302 := n0_; have BK303 := n1_; have HO310 := n2_; have HB := n3_; have HO316 := n4_; clear n0_ n1_ n2_ n3_ n4_; clear ho hb hg hat; obtain ⟨Ao49, co49, eo49⟩ := Kd.R_slice HO316.out; subst eo49; obtain ⟨z50_0, z50_1, z50_2, z50_3, z50_4, z50_5, z50_6, z50_7, q50_0, q50_1, q50_2, q50_3, q50_4, q50_5, q50_6, q50_7⟩ := bk8_ BK302.out) | ((with_reducible refine gate_callee (f := 48) rfl ?_); refine goesL_ (some 30) rfl rfl Tryz.func48 (by kernel_rfl) rfl #[.agg #[.int .i64 a0_0, .bool true, .bool a0_2, .int .i64 a1, .string a0_4, .int .i64 a0_5, .slice Ao44 y308.length co44, .slice Ao49 y314.length co49]] rfl argsS_ ?_; (with_reducible refine (spec_GoodMessage.calls kj4 a0_0 true a0_2 a1 a0_4 a0_5 _ _ y308 _ _ y314 false _ ?side1 ?side2 ?side3 ?side4 A22.out).mono ?_); (case side1 => refine (Kd.R_reads' (e := 72) (base := w.heap.size) (ok := fun k_ => (True ∧ nw_ k_ Ao49 y314.length co49)) (n := y308.length) (c := co44) ?_).2.2; exact (kR_ (Kd.R_mono (Kd.R_far (p := ⟨gb302, 7, none⟩) (Kd.R_types HO310.out BK302.out (by decide)) (fun _ hk => hk.2) (.slice Ao49 y314.length co49)) (fun _ h_ => h_.1)))); (case side2 => exact (Kd.R_reads' HO310.out).2.1); (case side3 => refine (Kd.R_reads' (e := 72) (base := w.heap.size) (ok := fun k_ => nw_ k_ Ao44 y308.length co44) (n := y314.length) (c := co49) ?_).2.2; exact (kR_ (Kd.R_mono (Kd.R_far (p := ⟨gb302, 7, none⟩) (Kd.R_types HO316.out BK302.out (by decide)) (fun _ hk => hk.2) (.slice Ao49 y314.length co49)) (fun _ h_ => h_.1)))); (case side4 => exact (Kd.R_reads' HO316.out).2.1); rintro e w51 ⟨rfl, hb⟩; refine ⟨_, rfl, ?_⟩; replace HO310 := a0_ (Kd.R_below (kR_ (Kd.R_mono (Kd.R_far (p := ⟨gb302, 7, none⟩) (Kd.R_types HO310.out BK302.out (by decide)) (fun _ hk => hk.2) (.slice Ao49 y314.length co49)) (fun _ h_ => h_.1))) hb); replace HO316 := a0_ (Kd.R_below (kR_ (Kd.R_mono (Kd.R_far (p := ⟨gb302, 7, none⟩) (Kd.R_types HO316.out BK302.out (by decide)) (fun _ hk => hk.2) (.slice Ao49 y314.length co49)) (fun _ h_ => h_.1))) hb); replace BK302 := a0_ (blk_below (g := gb302) (o := .cells #[.int .i64 a0_0, .bool true, .bool a0_2, .int .i64 a1, .string a0_4, .int .i64 a0_5, .slice Ao44 y308.length co44, .slice Ao49 y314.length co49] 24 (0, 0)) (by (with_reducible repeat (first | refine blk_drewN ?_ _ | refine blk_drew ?_ | refine blk_alloc ?_ _)); refine blk_put (cs := #[.int .i64 a0_0, .bool true, .bool a0_2, .int .i64 a1, .string a0_4, .int .i64 a0_5, .slice Ao44 y308.length co44, .slice A0_7 l0_7.length c0_7]) ?_ 7 _ rfl; (with_reducible repeat (first | refine blk_drewN ?_ _ | refine blk_drew ?_ | refine blk_alloc ?_ _)); exact BK302.out) hb); replace BK303 := a0_ (blk_below (g := gb303) (o := .cells #[.int .i64 0, .bool false, .bool false, .int .i64 0, .string (⟨#[]⟩ : ByteArray), .int .i64 0, .slice none 0 0, .slice none 0 0] 24 (0, 0)) (by (with_reducible repeat (first | refine blk_drewN ?_ _ | refine blk_drew ?_ | refine blk_alloc ?_ _)); refine blk_far ?_ NB303_302.out _; (with_reducible repeat (first | refine blk_drewN ?_ _ | refine blk_drew ?_ | refine blk_alloc ?_ _)); exact BK303.out) hb); replace HB := a0_ (below_step bq1_ hb); (try clear hb); (try clear hb2); (try clear hk); (try clear hi); obtain ⟨z52_0, z52_1, z52_2, z52_3, z52_4, z52_5, z52_6, z52_7, q52_0, q52_1, q52_2, q52_3, q52_4, q52_5, q52_6, q52_7⟩ := bk8_ BK303.out))
   refine bodyPost_ret (results_ct rfl _ _ gb303 24 #[.int .i64 0, .bool false, .bool false, .int .i64 0, .string (⟨#[]⟩ : ByteArray), .int .i64 0, .slice none 0 0, .slice none 0 0] (0, 0) _ rfl (put8_ BK303.out) Tryz.underlying24 rfl (by kernel_rfl)) rfl ?_
   exact ⟨_, _, rr_, by first | exact Kd.R_nil _ _ _ _ _ | exact Kd.N_nil _ _ _ _ _ | exact Kd.V_nil _ _ _ _ _ | exact Kd.Q_nil _ _ _ _ _ | exact Kd.S_nil _ _ _ _ _, by first | exact Kd.R_nil _ _ _ _ _ | exact Kd.N_nil _ _ _ _ _ | exact Kd.V_nil _ _ _ _ _ | exact Kd.Q_nil _ _ _ _ _ | exact Kd.S_nil _ _ _ _ _, bq1_⟩
end Go.Proofs.YtkpkfallgjdkmaaGreatDoor.P
namespace Go.Proofs.YtkpkfallgjdkmaaGreatDoor.P
open Go.RowKit Go.Proofs.YtkpkfallgjdkmaaGreatDoorW.PrintWords Go.Proofs.YtkpkfallgjdkmaaGreatDoorW.PrintLast Go.Proofs.YtkpkfallgjdkmaaGreatDoorW.PrintMore
set_option linter.unusedVariables false
set_option linter.unusedSimpArgs false
def encR (x : S72) : Value := .agg #[.string x.f0, .int .i64 x.f1, .int .i64 x.f2, .string x.f3]
def PredR (g : Nat) (cb : Array Value) (p : S72 → Bool) (xs : List (S72)) (w : World) : Prop :=
 ∀ (j : Nat) (x : S72), xs[j]? = some x → (∀ (i : Nat) (y : S72), i < j → xs[i]? = some y → p y = false) → ∀ W, Below w.heap.size w W → Calls Tryz.prog g (#[encR x] ++ cb) W fun e W' => e = .returned (.bool (p x)) ∧ Below W.heap.size W W'
set_option maxHeartbeats 2000000 in
theorem index_rec (A : Option Addr) (c : Nat) (xs : List (S72)) (g : Nat) (cb : Array Value) (p : S72 → Bool) (w : World) (hr : Kd.C k72 w A xs.length xs)
 (eg : ∀ args w, (callFunc g args).run Tryz.prog w = .ok (.enter g args) w) (hp : PredR g cb p xs w) :
 Calls Tryz.prog 89 #[.slice A xs.length c, .func (.func g) #[] cb] w fun e w' => e = .returned (.int .i64 (idxP p xs 0)) ∧ Below w.heap.size w w' := by
 have hbig : xs.length ≤ 9223372036854775807 := hr.2.1
 go_enter Tryz.func89, Tryz.ntmps89
 go_wp2
 go_loopg [5, 8] xs.length (fun gg _ s8 wr => ∃ kk : Nat, kk ≤ xs.length ∧ xs.length - kk ≤ gg ∧ s8 = .int .i64 kk ∧ Aside0 (Below w.heap.size w wr) ∧ Aside0 (∀ j y, j < kk → xs[j]? = some y → p y = false))
 case atStart => exact ⟨0, Nat.zero_le _, by omega, rfl, ⟨Below.refl _ w⟩, ⟨fun j y hj => absurd hj (Nat.not_lt_zero _)⟩⟩
 case round =>
  obtain ⟨kk, hkk, hg, rfl, BW, AA⟩ := hrel
  by_cases hlt : kk < xs.length
  · have hltz : (kk : Int) < (xs.length : Int) := by omega
    obtain ⟨ad, e0, hx0, hx1, hx2, hx3⟩ := at_T72 hr (kk : Int) (by omega) hltz
    cases e0
    have l0 := (BW.out.cell (World.block_lt_of_cell? _ _ hx0)).trans hx0
    have l1 := (BW.out.cell (World.block_lt_of_cell? _ _ hx1)).trans hx1
    have l2 := (BW.out.cell (World.block_lt_of_cell? _ _ hx2)).trans hx2
    have l3 := (BW.out.cell (World.block_lt_of_cell? _ _ hx3)).trans hx3
    clear hx0 hx1 hx2 hx3
    simp only [Int.toNat_natCast] at l0 l1 l2 l3
    have hmem : xs[kk]? = some (rd_T72 xs kk) := by
     rw [List.getElem?_eq_getElem hlt]; simp [rd_T72, List.getElem?_eq_getElem hlt]
    have hcall := hp kk (rd_T72 xs kk) hmem AA.out wr BW.out
    clear hp
    generalize hy : rd_T72 xs kk = y at l0 l1 l2 l3 hcall hmem
    have B := Aside0.mk hmem
    clear hmem hy
    have hkn : ((kk : Int)).toNat = kk := by omega
    unfold encR at hcall
    cases hq : p y with
    | true =>
     rw [hq] at hcall
     go_wp2_with (go_at_fn g; refine hcall.mono ?_; rintro e w' ⟨rfl, hb'⟩)
     go_ret
     refine ⟨?_, below_then BW.out BW.out.size hb'⟩
     rw [idxP_hit p xs 0 kk y B.out hq AA.out]
     simp
    | false =>
     rw [hq] at hcall
     go_wp2_with (go_at_fn g; refine hcall.mono ?_; rintro e w' ⟨rfl, hb'⟩)
     go_roundg (xs.length - (kk + 1))
     case measure => omega
     case rel =>
      refine ⟨kk + 1, by omega, by omega, by go_num, ⟨below_then BW.out BW.out.size hb'⟩, ⟨fun j z hj hz => ?_⟩⟩
      by_cases e : j = kk
      · subst e
        rw [B.out] at hz
        cases hz
        exact hq
      · exact AA.out j z (by omega) hz
  · have hltz : ¬ (kk : Int) < (xs.length : Int) := by omega
    have hm : idxP p xs 0 = -1 := idxP_miss p xs 0 (fun y hy => by obtain ⟨j, hj, e⟩ := List.mem_iff_getElem.1 hy; exact AA.out j y (by omega) (by rw [List.getElem?_eq_getElem hj, e]))
    have HM := Aside0.mk hm
    clear hm
    go_wp2
    go_ret
    exact ⟨by rw [HM.out]; rfl, BW.out⟩
theorem contains_rec (A : Option Addr) (c : Nat) (xs : List (S72)) (g : Nat) (cb : Array Value) (p : S72 → Bool) (w : World) (hr : Kd.C k72 w A xs.length xs)
 (eg : ∀ args w, (callFunc g args).run Tryz.prog w = .ok (.enter g args) w) (hp : PredR g cb p xs w) :
 Calls Tryz.prog 59 #[.slice A xs.length c, .func (.func g) #[] cb] w fun e w' => e = .returned (.bool (xs.any p)) ∧ Below w.heap.size w w' := by
 rw [← idxP_any p xs 0 (by omega)]
 go_enter Tryz.func59, Tryz.ntmps59
 go_wp2_with (go_at_call 89; refine (index_rec A c xs g cb p _ hr eg hp).mono ?_; rintro e w' ⟨rfl, hb'⟩)
 go_ret
 exact ⟨rfl, hb'⟩
def impl_areRecords.f (k : Nat) : List (S72) → Option Bool
 | [] => some true
 | x :: xs => (impl_GoodRecord.f k x.f0 x.f1 x.f2 x.f3).bind fun g => (if g = true then impl_areRecords.f k xs else some false)
def badP (k : Nat) (x : S72) : Bool := !((impl_GoodRecord.f k x.f0 x.f1 x.f2 x.f3).getD false)
theorem are_at (k : Nat) : ∀ (xs : List (S72)) (r : Bool), impl_areRecords.f k xs = some r → ∀ (j : Nat) (x : S72), xs[j]? = some x → (∀ (i : Nat) (y : S72), i < j → xs[i]? = some y → badP k y = false) → impl_GoodRecord.f k x.f0 x.f1 x.f2 x.f3 = some (!badP k x)
 | [], r, h, j, x, hj, hb => by simp at hj
 | z :: xs, r, h, j, x, hj, hb => by
  unfold impl_areRecords.f at h
  obtain ⟨g, hg, h⟩ := Option.bind_eq_some_iff.mp h
  cases j with
  | zero =>
   obtain rfl : z = x := by simpa using hj
   unfold badP
   rw [hg, Option.getD_some, Bool.not_not]
  | succ j =>
   have h0 := hb 0 z (by omega) (by simp)
   unfold badP at h0
   rw [hg, Option.getD_some] at h0
   have hgt : g = true := by cases g with
    | true => rfl
    | false => cases h0
   rw [if_pos hgt] at h
   exact are_at k xs r h j x (by simpa using hj) fun i y hi hy => hb (i + 1) y (by omega) (by simpa using hy)
theorem are_any (k : Nat) : ∀ (xs : List (S72)) (r : Bool), impl_areRecords.f k xs = some r → xs.any (badP k) = !r
 | [], r, h => by
  obtain rfl := Option.some.inj h
  rfl
 | z :: xs, r, h => by
  unfold impl_areRecords.f at h
  obtain ⟨g, hg, h⟩ := Option.bind_eq_some_iff.mp h
  rw [List.any_cons]
  unfold badP
  rw [hg, Option.getD_some]
  cases g with
  | true =>
   rw [if_pos rfl] at h
   exact are_any k xs r h
  | false =>
   rw [if_neg (by decide)] at h
   obtain rfl := Option.some.inj h
   rfl
set_option maxHeartbeats 4000000 in
theorem impl_areRecords.calls (k : Nat) (A0 : Option Addr) (c0 : Nat) (l0 : List (S72)) (r : Bool) (w : World) (hr0 : Kd.C k72 w A0 l0.length l0) (hc0 : l0.length ≤ c0) (h : impl_areRecords.f k l0 = some r)
 (hv_ : Vars w := by first | assumption | (refine Vars.below (Aside0.out (by assumption)) ?_; repeat (first | (with_reducible first | exact Below.refl _ _ | exact Aside0.out (by assumption) | apply below_alloc | apply pw_below_drewN | apply below_drew1) | exact Aside0.out (by assumption)))) :
 Calls Tryz.prog 80 #[.slice A0 l0.length c0] w fun e w' => e = .returned (.bool r) ∧ Below w.heap.size w w' := by
 have eg : ∀ args w, (callFunc 105 args).run Tryz.prog w = .ok (.enter 105 args) w := enters_of Tryz.func105 (by kernel_rfl) rfl
 have cc := contains_rec A0 c0 l0 105 #[] (badP k) w hr0 eg (fun j x hj hb W hW =>
  impl_areRecords_1.calls k x.f0 x.f1 x.f2 x.f3 (badP k x) W (by unfold impl_areRecords_1.f; rw [are_at k l0 r h j x hj hb, Option.bind_some, Bool.not_not]) (Vars.below hv_ hW))
 rw [are_any k l0 r h] at cc
 clear h hv_
 go_enter Tryz.func80, Tryz.ntmps80
 go_wp2_with (go_at_call 59; refine cc.mono ?_; rintro e w1 ⟨rfl, hb⟩)
 go_ret
 exact ⟨by simp, hb⟩
end Go.Proofs.YtkpkfallgjdkmaaGreatDoor.P
