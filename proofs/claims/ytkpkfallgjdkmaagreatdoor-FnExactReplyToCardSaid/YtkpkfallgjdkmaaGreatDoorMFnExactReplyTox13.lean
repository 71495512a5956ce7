/- FnExactReplyTo: part 14 of 23 of my texts for this claim, joined; the theorem stands in the last. Conditions: none beyond the statement's. -/
import Derived.Test.YtkpkfallgjdkmaaGreatDoorMFnExactReplyTox12
namespace Go.Proofs.YtkpkfallgjdkmaaGreatDoor.P
open Go.RowKit Go.Proofs.YtkpkfallgjdkmaaGreatDoorW.PrintWords Go.Proofs.YtkpkfallgjdkmaaGreatDoorW.PrintLast Go.Proofs.YtkpkfallgjdkmaaGreatDoorW.PrintMore
attribute [local go_sem] max2_int min2_int max_two min_two max_three min_three max_four min_four
set_option linter.unusedVariables false
set_option linter.unusedSimpArgs false
def spec_l4Records.l0 : Nat → List (S72) → List (S72) → Int → Int → Option (Bool)
 | 0, _, _, _, _ => none
 | k + 1, x0, x5, x6, x7 => if x7 < x6 then (if 0 ≤ x7 then (if x7 < (x5.length : Int) then ((spec_GoodRecord.f k ((rd_T72 x5 x7).f0) ((rd_T72 x5 x7).f1) ((rd_T72 x5 x7).f2) ((rd_T72 x5 x7).f3)).bind fun t175 => (if t175 = true then (spec_l4Records.l0 k x0 x5 x6 (wrap64 (x7 + 1))) else (some false))) else (none)) else (none)) else (some (decide ((x0.length : Int) ≤ 12)))
def spec_l4Records.f (k : Nat) (l0 : List (S72)) : Option (Bool) := spec_l4Records.l0 k l0 l0 (l0.length : Int) 0
set_option maxHeartbeats 8000000 in
set_option maxRecDepth 100000 in
theorem spec_l4Records.calls (k : Nat) (A0 : Option Addr) (c0 : Nat) (l0 : List (S72)) (r : Bool) (w : World) (hr0 : Kd.C k72 w A0 l0.length l0) (hc0 : l0.length ≤ c0) (h : spec_l4Records.f k l0 = some r) :
 Calls Tryz.prog 77 #[.slice A0 l0.length c0] w fun e w' => e = .returned (.bool r) ∧ Below w.heap.size w w' := by
 have hu72 := Tryz.underlying72
 have HR0 := a0_ hr0
 have HC0 := a0_ hc0
 clear hr0 hc0
 have HB := a0_ (Below.refl w.heap.size w)
 have H : (spec_l4Records.l0 k l0 l0 (l0.length : Int) 0) = some r := h
 clear h
 have H' := a0_ H
 clear H
 go_enter Tryz.func77, Tryz.ntmps77
 go_wp2
 go_loopg [7] k (fun kq v7 w' => ∃ (x7_1 : Int), v7 = .int .i64 x7_1 ∧ Aside0 (spec_l4Records.l0 kq l0 l0 (l0.length : Int) x7_1 = some r) ∧ Aside0 (kq ≤ k) ∧ Aside0 (Below w.heap.size w w'))
 case atStart => exact ⟨(0), rs_, H', ⟨Nat.le_refl _⟩, ⟨bq0_⟩⟩
 case round =>
  clear H'
  obtain ⟨x7_1, rfl, HA, HK1, HB⟩ := hrel
  cases gk with
  | zero => exact absurd HA.out (by simp [spec_l4Records.l0])
  | succ k1 =>
   have H := HA.out
   clear HA
   simp only [spec_l4Records.l0] at H
   by_cases c2 : x7_1 < (l0.length : Int)
   case neg =>
    rw [if_neg c2] at H
    have c2b0 := decide_eq_false c2
    clear c2
    obtain rfl := Option.some.inj H
    go_wp2
    go_ret
    exact ⟨rr_, bq0_⟩
   rw [if_pos c2] at H
   have c2b0 := decide_eq_true c2
   clear c2
   by_cases c3 : 0 ≤ x7_1
   case neg =>
    rw [if_neg c3] at H
    exact absurd H (by simp)
   rw [if_pos c3] at H
   have c3b0 := decide_eq_true c3
   clear c3
   by_cases c4 : x7_1 < (l0.length : Int)
   case neg =>
    rw [if_neg c4] at H
    exact absurd H (by simp)
   rw [if_pos c4] at H
   have c4b0 := decide_eq_true c4
   clear c4
   obtain ⟨t175, A50, H⟩ := Option.bind_eq_some_iff.mp H
   have A5 := a0_ A50
   clear A50
   by_cases c6 : t175 = true
   case neg =>
    replace c6 := Bool.eq_false_iff.mpr c6
    subst c6
    rw [if_neg (show ¬ (false = true) by decide)] at H
    obtain rfl := Option.some.inj H
    have p173 : 0 ≤ (x7_1 : Int) := dec_
    have q173 : x7_1 < (l0.length : Int) := dec_
    obtain ⟨ad173, e173, hx173_0, hx173_1, hx173_2, hx173_3⟩ := at_T72 HR0.out x7_1 p173 q173
    cases e173
    obtain ⟨hx173_0, hx173_1, hx173_2, hx173_3⟩ := up4_ HB.out hx173_0 hx173_1 hx173_2 hx173_3
    replace p173 := eq_true p173
    replace q173 := eq_true q173
    go_wp2_with (first | ((with_reducible refine gate_dst (N := 4) rfl ?_); refine boxS_ 4 #[.string (⟨#[]⟩ : ByteArray), .int .i64 0, .int .i64 0, .string (⟨#[]⟩ : ByteArray)] 72 (fun gb174 hg w10 hbox hb => ?_); have n0_ := a0_ (below_step bq0_ hb); have n1_ := a0_ (hbox); have n2_ := a0_ (gw_ hg : w.heap.size ≤ gb174); have n3_ := n2_; clear HB; have HB := n0_; have BK174 := n1_; have GW174 := n2_; have GE174 := n3_; clear n0_ n1_ n2_ n3_; clear hb hbox hg; obtain ⟨z11_0, z11_1, z11_2, z11_3, q11_0, q11_1, q11_2, q11_3⟩ := bk4_ BK174.out) | ((with_reducible refine gate_callee (f := 82) rfl ?_); refine goesL_ (some 12) rfl rfl Tryz.func82 (by kernel_rfl) rfl #[.agg #[.string ((rd_T72 l0 x7_1).f0), .int .i64 ((rd_T72 l0 x7_1).f1), .int .i64 ((rd_T72 l0 x7_1).f2), .string ((rd_T72 l0 x7_1).f3)]] rfl argsS_ ?_; (with_reducible refine (spec_GoodRecord.calls k1 ((rd_T72 l0 x7_1).f0) ((rd_T72 l0 x7_1).f1) ((rd_T72 l0 x7_1).f2) ((rd_T72 l0 x7_1).f3) false _ A5.out).mono ?_); rintro e w12 ⟨rfl, hb⟩; refine ⟨_, rfl, ?_⟩; replace BK174 := a0_ (blk_below (g := gb174) (o := .cells #[.string ((rd_T72 l0 x7_1).f0), .int .i64 ((rd_T72 l0 x7_1).f1), .int .i64 ((rd_T72 l0 x7_1).f2), .string ((rd_T72 l0 x7_1).f3)] 72 (0, 0)) (put4_ BK174.out) hb); replace HB := a0_ (below_step bq1_ hb); (try clear hb); (try clear hb2); (try clear hk); (try clear hi)))
    go_ret
    exact ⟨rr_, bq1_⟩
   subst c6
   rw [if_pos rfl] at H
   have H' := a0_ H
   clear H
   have p173 : 0 ≤ (x7_1 : Int) := dec_
   have q173 : x7_1 < (l0.length : Int) := dec_
   obtain ⟨ad173, e173, hx173_0, hx173_1, hx173_2, hx173_3⟩ := at_T72 HR0.out x7_1 p173 q173
   cases e173
   obtain ⟨hx173_0, hx173_1, hx173_2, hx173_3⟩ := up4_ HB.out hx173_0 hx173_1 hx173_2 hx173_3
   replace p173 := eq_true p173
   replace q173 := eq_true q173
   go_wp2_with (first | ((with_reducible refine gate_dst (N := 4) rfl ?_); refine boxS_ 4 #[.string (⟨#[]⟩ : ByteArray), .int .i64 0, .int .i64 0, .string (⟨#[]⟩ : ByteArray)] 72 (fun gb174 hg w7 hbox hb => ?_); have n0_ := a0_ (below_step bq0_ hb); have n1_ := a0_ (hbox); have n2_ := a0_ (gw_ hg : w.heap.size ≤ gb174); have n3_ := n2_; clear HB; have HB := n0_; have BK174 := n1_; have GW174 := n2_; have GE174 := n3_; clear n0_ n1_ n2_ n3_; clear hb hbox hg; obtain ⟨z8_0, z8_1, z8_2, z8_3, q8_0, q8_1, q8_2, q8_3⟩ := bk4_ BK174.out) | ((with_reducible refine gate_callee (f := 82) rfl ?_); refine goesL_ (some 12) rfl rfl Tryz.func82 (by kernel_rfl) rfl #[.agg #[.string ((rd_T72 l0 x7_1).f0), .int .i64 ((rd_T72 l0 x7_1).f1), .int .i64 ((rd_T72 l0 x7_1).f2), .string ((rd_T72 l0 x7_1).f3)]] rfl argsS_ ?_; (with_reducible refine (spec_GoodRecord.calls k1 ((rd_T72 l0 x7_1).f0) ((rd_T72 l0 x7_1).f1) ((rd_T72 l0 x7_1).f2) ((rd_T72 l0 x7_1).f3) true _ A5.out).mono ?_); rintro e w9 ⟨rfl, hb⟩; refine ⟨_, rfl, ?_⟩; replace BK174 := a0_ (blk_below (g := gb174) (o := .cells #[.string ((rd_T72 l0 x7_1).f0), .int .i64 ((rd_T72 l0 x7_1).f1), .int .i64 ((rd_T72 l0 x7_1).f2), .string ((rd_T72 l0 x7_1).f3)] 72 (0, 0)) (put4_ BK174.out) hb); replace HB := a0_ (below_step bq1_ hb); (try clear hb); (try clear hb2); (try clear hk); (try clear hi)))
   go_roundg k1
   case measure => have := HK1.out; omega
   case rel => exact ⟨(wrap64 (x7_1 + 1)), rs_, H', ⟨by have := HK1.out; omega⟩, ⟨bq1_⟩⟩
def impl_GoodRecord.f (k : Nat) (a0_0 : ByteArray) (a0_1 : Int) (a0_2 : Int) (a0_3 : ByteArray) : Option (Bool) := (impl_GoodName.f a0_0).bind fun t550 => (if t550 = true then ((impl_within.f a0_2 0 100000).bind fun t551 => (if t551 = true then (if (a0_3.size : Int) > 100 then (some false) else ((impl_DataBytes.f k a0_1 a0_3).bind fun bt552 => (some bt552.2))) else (some false))) else (some false))
set_option maxHeartbeats 8000000 in
set_option maxRecDepth 100000 in
theorem impl_GoodRecord.calls (k : Nat) (a0_0 : ByteArray) (a0_1 : Int) (a0_2 : Int) (a0_3 : ByteArray) (r : Bool) (w : World) (h : impl_GoodRecord.f k a0_0 a0_1 a0_2 a0_3 = some r) (hv_ : Vars w := by exact vv_) :
 Calls Tryz.prog 106 #[.agg #[.string a0_0, .int .i64 a0_1, .int .i64 a0_2, .string a0_3]] w fun e w' => e = .returned (.bool r) ∧ Below w.heap.size w w' := by
 have HV_ := a0_ hv_
 clear hv_
 have hu72 := Tryz.underlying72
 have HB := a0_ (Below.refl w.heap.size w)
 have H : ((impl_GoodName.f a0_0).bind fun t550 => (if t550 = true then ((impl_within.f a0_2 0 100000).bind fun t551 => (if t551 = true then (if (a0_3.size : Int) > 100 then (some false) else ((impl_DataBytes.f k a0_1 a0_3).bind fun bt552 => (some bt552.2))) else (some false))) else (some false))) = some r := h
 clear h
 obtain ⟨t550, A20, H⟩ := Option.bind_eq_some_iff.mp H
 have A2 := a0_ A20
 clear A20
 by_cases c3 : t550 = true
 case neg =>
  replace c3 := Bool.eq_false_iff.mpr c3
  subst c3
  rw [if_neg (show ¬ (false = true) by decide)] at H
  obtain rfl := Option.some.inj H
  go_enter Tryz.func106, Tryz.ntmps106
  go_wp2_with (first | ((with_reducible refine gate_dst (N := 1) rfl ?_); (try (refine gate_guard (by rfl) ?_; dsimp only)); refine boxS_ 1 #[.string a0_0, .int .i64 a0_1, .int .i64 a0_2, .string a0_3] 72 (fun gb549 hg w21 hbox hb => ?_); have n0_ := a0_ (below_step bq0_ hb); have n1_ := a0_ (hbox); have n2_ := a0_ (gw_ hg : w.heap.size ≤ gb549); have n3_ := n2_; clear HB; have HB := n0_; have BK549 := n1_; have GW549 := n2_; have GE549 := n3_; clear n0_ n1_ n2_ n3_; clear hb hbox hg; obtain ⟨z22_0, z22_1, z22_2, z22_3, q22_0, q22_1, q22_2, q22_3⟩ := bk4_ BK549.out) | ((with_reducible refine gate_callee (f := 72) rfl ?_); refine goesL_ (some 7) rfl rfl Tryz.func72 (by kernel_rfl) rfl #[.string a0_0] rfl argsS_ ?_; (with_reducible refine (impl_GoodName.calls a0_0 false _ A2.out).mono ?_); rintro e w23 ⟨rfl, hb⟩; refine ⟨_, rfl, ?_⟩; replace BK549 := a0_ (bkB_ BK549 hb); replace HB := a0_ (below_step bq1_ hb); (try clear hb); (try clear hb2); (try clear hk); (try clear hi)))
  go_ret
  exact ⟨rr_, bq1_⟩
 subst c3
 rw [if_pos rfl] at H
 obtain ⟨t551, A40, H⟩ := Option.bind_eq_some_iff.mp H
 have A4 := a0_ A40
 clear A40
 by_cases c5 : t551 = true
 case neg =>
  replace c5 := Bool.eq_false_iff.mpr c5
  subst c5
  rw [if_neg (show ¬ (false = true) by decide)] at H
  obtain rfl := Option.some.inj H
  go_enter Tryz.func106, Tryz.ntmps106
  go_wp2_with (first | ((with_reducible refine gate_dst (N := 1) rfl ?_); (try (refine gate_guard (by rfl) ?_; dsimp only)); refine boxS_ 1 #[.string a0_0, .int .i64 a0_1, .int .i64 a0_2, .string a0_3] 72 (fun gb549 hg w17 hbox hb => ?_); have n0_ := a0_ (below_step bq0_ hb); have n1_ := a0_ (hbox); have n2_ := a0_ (gw_ hg : w.heap.size ≤ gb549); have n3_ := n2_; clear HB; have HB := n0_; have BK549 := n1_; have GW549 := n2_; have GE549 := n3_; clear n0_ n1_ n2_ n3_; clear hb hbox hg; obtain ⟨z18_0, z18_1, z18_2, z18_3, q18_0, q18_1, q18_2, q18_3⟩ := bk4_ BK549.out) | ((with_reducible refine gate_callee (f := 72) rfl ?_); refine goesL_ (some 7) rfl rfl Tryz.func72 (by kernel_rfl) rfl #[.string a0_0] rfl argsS_ ?_; (with_reducible refine (impl_GoodName.calls a0_0 true _ A2.out).mono ?_); rintro e w19 ⟨rfl, hb⟩; refine ⟨_, rfl, ?_⟩; replace BK549 := a0_ (bkB_ BK549 hb); replace HB := a0_ (below_step bq1_ hb); (try clear hb); (try clear hb2); (try clear hk); (try clear hi); obtain ⟨z20_0, z20_1, z20_2, z20_3, q20_0, q20_1, q20_2, q20_3⟩ := bk4_ BK549.out) | (go_at_call 78; (with_reducible refine (impl_within.calls a0_2 0 100000 false _ A4.out).mono ?_); rintro e w' ⟨rfl, ⟨nd, rfl⟩⟩))
  go_ret
  exact ⟨rr_, bq1_⟩
 subst c5
 rw [if_pos rfl] at H
 by_cases c6 : (a0_3.size : Int) > 100
 case pos =>
  rw [if_pos c6] at H
  have c6b0 := decide_eq_true c6
  have c6b1 : decide (100 < a0_3.size) = true := decide_eq_true (by omega)
  clear c6
  obtain rfl := Option.some.inj H
  go_enter Tryz.func106, Tryz.ntmps106
  go_wp2_with (first | ((with_reducible refine gate_dst (N := 1) rfl ?_); (try (refine gate_guard (by rfl) ?_; dsimp only)); refine boxS_ 1 #[.string a0_0, .int .i64 a0_1, .int .i64 a0_2, .string a0_3] 72 (fun gb549 hg w7 hbox hb => ?_); have n0_ := a0_ (below_step bq0_ hb); have n1_ := a0_ (hbox); have n2_ := a0_ (gw_ hg : w.heap.size ≤ gb549); have n3_ := n2_; clear HB; have HB := n0_; have BK549 := n1_; have GW549 := n2_; have GE549 := n3_; clear n0_ n1_ n2_ n3_; clear hb hbox hg; obtain ⟨z8_0, z8_1, z8_2, z8_3, q8_0, q8_1, q8_2, q8_3⟩ := bk4_ BK549.out) | ((with_reducible refine gate_callee (f := 72) rfl ?_); refine goesL_ (some 7) rfl rfl Tryz.func72 (by kernel_rfl) rfl #[.string a0_0] rfl argsS_ ?_; (with_reducible refine (impl_GoodName.calls a0_0 true _ A2.out).mono ?_); rintro e w9 ⟨rfl, hb⟩; refine ⟨_, rfl, ?_⟩; replace BK549 := a0_ (bkB_ BK549 hb); replace HB := a0_ (below_step bq1_ hb); (try clear hb); (try clear hb2); (try clear hk); (try clear hi); obtain ⟨z10_0, z10_1, z10_2, z10_3, q10_0, q10_1, q10_2, q10_3⟩ := bk4_ BK549.out) | (go_at_call 78; (with_reducible refine (impl_within.calls a0_2 0 100000 true _ A4.out).mono ?_); rintro e w' ⟨rfl, ⟨nd, rfl⟩⟩))
  go_ret
  exact ⟨rr_, bq1_⟩
 rw [if_neg c6] at H
 have c6b0 := decide_eq_false c6
 have c6b1 : decide (100 < a0_3.size) = false := decide_eq_false (by omega)
 clear c6
 obtain ⟨⟨t552, t553⟩, A110, H⟩ := Option.bind_eq_some_iff.mp H
 have A11 := a0_ A110
 clear A110
 obtain rfl := Option.some.inj H
 go_enter Tryz.func106, Tryz.ntmps106
 go_wp2_with (first | ((with_reducible refine gate_dst (N := 1) rfl ?_); (try (refine gate_guard (by rfl) ?_; dsimp only)); refine boxS_ 1 #[.string a0_0, .int .i64 a0_1, .int .i64 a0_2, .string a0_3] 72 (fun gb549 hg w12 hbox hb => ?_); have n0_ := a0_ (below_step bq0_ hb); have n1_ := a0_ (hbox); have n2_ := a0_ (gw_ hg : w.heap.size ≤ gb549); have n3_ := n2_; clear HB; have HB := n0_; have BK549 := n1_; have GW549 := n2_; have GE549 := n3_; clear n0_ n1_ n2_ n3_; clear hb hbox hg; obtain ⟨z13_0, z13_1, z13_2, z13_3, q13_0, q13_1, q13_2, q13_3⟩ := bk4_ BK549.out) | ((with_reducible refine gate_callee (f := 72) rfl ?_); refine goesL_ (some 7) rfl rfl Tryz.func72 (by kernel_rfl) rfl #[.string a0_0] rfl argsS_ ?_; (with_reducible refine (impl_GoodName.calls a0_0 true _ A2.out).mono ?_); rintro e w14 ⟨rfl, hb⟩; refine ⟨_, rfl, ?_⟩; replace BK549 := a0_ (bkB_ BK549 hb); replace HB := a0_ (below_step bq1_ hb); (try clear hb); (try clear hb2); (try clear hk); (try clear hi); obtain ⟨z15_0, z15_1, z15_2, z15_3, q15_0, q15_1, q15_2, q15_3⟩ := bk4_ BK549.out) | (go_at_call 78; (with_reducible refine (impl_within.calls a0_2 0 100000 true _ A4.out).mono ?_); rintro e w' ⟨rfl, ⟨nd, rfl⟩⟩) | ((with_reducible refine gate_callee (f := 121) rfl ?_); refine goesL_ (some 26) rfl rfl Tryz.func121 (by kernel_rfl) rfl #[.int .i64 a0_1, .string a0_3] rfl argsS_ ?_; (with_reducible refine (impl_DataBytes.calls k a0_1 a0_3 t552 t553 _ A11.out).mono ?_); rintro e w16 ⟨rfl, hb⟩; refine ⟨_, rfl, ?_⟩; replace BK549 := a0_ (bkB_ BK549 hb); replace HB := a0_ (below_step bq1_ hb); (try clear hb); (try clear hb2); (try clear hk); (try clear hi)))
 go_ret
 exact ⟨rr_, bq1_⟩
end Go.Proofs.YtkpkfallgjdkmaaGreatDoor.P
namespace Go.Proofs.YtkpkfallgjdkmaaGreatDoor.Pure
open Go.RowKit Go.Proofs.YtkpkfallgjdkmaaGreatDoor.P Go.Proofs.YtkpkfallgjdkmaaGreatDoorW.PrintWords Go.Proofs.YtkpkfallgjdkmaaGreatDoorW.PrintLast
set_option linter.unusedVariables false
set_option linter.unusedSimpArgs false
theorem nb_rd (l : List ByteArray) (i : Nat) (h : i < l.length) : rdOf ByteArray.empty l (i : Int) = l[i] := by
 unfold rdOf
 rw [Int.toNat_natCast, List.getD_eq_getElem?_getD, List.getElem?_eq_getElem h]
 rfl
theorem nb_loops (parts : List ByteArray) (hp : ∀ p ∈ parts, p.size ≤ 1000) (hl : parts.length ≤ 1000) : ∀ (m i : Nat) (acc : ByteArray), i + m = parts.length → acc.size + m * 1024 < 1099511627776 →
 ∃ r, Ev (fun k => impl_labelBytes.l0 k acc parts (parts.length : Int) (i : Int)) r ∧ Ev (fun k => spec_l2Bytes.l0 k acc parts (parts.length : Int) (i : Int)) (r ++ (⟨#[0]⟩ : ByteArray)) ∧ r.size = acc.size + ((parts.drop i).map fun p => 1 + p.size).sum ∧ r.size < 1099511627776
 | 0, i, acc, him, ha => by
  refine ⟨acc, Ev.step (f := fun _ => some acc) (fun k => ?_) (Ev.now _), Ev.step (f := fun _ => some (acc ++ (⟨#[0]⟩ : ByteArray))) (fun k => ?_) (Ev.now _), by rw [List.drop_of_length_le (by omega)]; rfl, by omega⟩
  · show impl_labelBytes.l0 (k + 1) acc parts (parts.length : Int) (i : Int) = _
    unfold impl_labelBytes.l0
    rw [if_neg (by omega)]
  · show spec_l2Bytes.l0 (k + 1) acc parts (parts.length : Int) (i : Int) = _
    unfold spec_l2Bytes.l0
    rw [if_neg (by omega), if_pos (by omega)]
 | m + 1, i, acc, him, ha => by
  have hi : i < parts.length := by omega
  have hs : ∀ v : Int, (strOfNums [v]).size = 1 := fun v => by rw [strOfNums_size]; rfl
  have hpi := hp _ (List.getElem_mem hi)
  obtain ⟨r, h1, h2, h3, h4⟩ := nb_loops parts hp hl m (i + 1) (acc ++ (strOfNums [((parts[i].size : Int)) % 256] ++ parts[i])) (by omega) (by
   rw [ByteArray.size_append, ByteArray.size_append, hs]; omega)
  refine ⟨r, Ev.step (fun k => ?_) h1, Ev.step (fun k => ?_) h2, ?_, h4⟩
  · show impl_labelBytes.l0 (k + 1) acc parts (parts.length : Int) (i : Int) = _
    conv => lhs; unfold impl_labelBytes.l0
    rw [if_pos (by omega), if_pos (by omega), if_pos (by omega), nb_rd _ _ hi, Option.bind_some, if_pos (by rw [hs]; omega), if_pos (by rw [ByteArray.size_append, hs]; omega), w64n (by omega)]
  · show spec_l2Bytes.l0 (k + 1) acc parts (parts.length : Int) (i : Int) = _
    conv => lhs; unfold spec_l2Bytes.l0
    rw [if_pos (by omega), if_pos (by omega), if_pos (by omega), nb_rd _ _ hi, Option.bind_some, if_pos (by rw [hs]; omega), if_pos (by rw [ByteArray.size_append, hs]; omega), w64n (by omega)]
  · rw [h3, ByteArray.size_append, ByteArray.size_append, hs, List.drop_eq_getElem_cons hi, List.map_cons, List.sum_cons]
    omega
theorem split_sum : ∀ l : List UInt8, ((splitL 46 l).map fun p => 1 + p.length).sum = l.length + 1
 | [] => rfl
 | x :: xs => by
  have ih := split_sum xs
  unfold splitL
  split
  · rw [List.map_cons, List.sum_cons, ih, List.length_cons, List.length_nil]
    omega
  · cases hs : splitL 46 xs with
    | nil => exact absurd hs (splitL_ne 46 xs)
    | cons p ps =>
     rw [hs, List.map_cons, List.sum_cons] at ih
     rw [List.map_cons, List.sum_cons, List.length_cons, List.length_cons]
     omega
theorem nb_both (s : ByteArray) (h : goodL s.data.toList = true) : ∃ r, Ev (fun k => impl_labelBytes.f k s) r ∧ Ev (fun k => spec_l2Bytes.f k s) (r ++ (⟨#[0]⟩ : ByteArray)) ∧ r.size = (if s.size = 0 then 0 else s.size + 1) := by
 have hg := good_size h
 have hss := size_len s
 obtain ⟨q, e1, e2, e3⟩ := labels_ev s (by omega)
 have e3 := e3 (e2.trans h)
 have hlen : (labelsL s.data.toList).length ≤ 61 := by
  unfold labelsL
  split
  · simp
  · have := splitL_len 46 s.data.toList; omega
 obtain ⟨r, h1, h2, h3, h4⟩ := nb_loops ((labelsL s.data.toList).map mkB) (by
  intro p hp
  obtain ⟨x, hx, rfl⟩ := List.mem_map.1 hp
  rw [mkB_size]
  unfold labelsL at hx
  split at hx
  · cases hx
  · have := splitL_part 46 _ x hx; omega) (by rw [List.length_map]; omega) _ 0 (⟨#[]⟩ : ByteArray) (Nat.zero_add _) (by rw [List.length_map]; show 0 + _ < _; omega)
 refine ⟨r, ?_, ?_, ?_⟩
 · refine Ev.congr (f := fun k => impl_labelBytes.l0 k (⟨#[]⟩ : ByteArray) ((labelsL s.data.toList).map mkB) (((labelsL s.data.toList).map mkB).length : Int) 0) (fun k => ?_) h1
   unfold impl_labelBytes.f
   rw [labelsOf_eq s (by omega)]
   rfl
 · refine Ev.congr (f := fun k => (spec_l1Labels.f k s).bind fun bt137 => (spec_l2Bytes.l0 k (⟨#[]⟩ : ByteArray) bt137.1 (bt137.1.length : Int) 0)) (fun k => rfl) (Ev.bind e1 ?_)
   rw [e3]
   exact h2
 · rw [h3, List.drop_zero, List.map_map]
   have e : ((fun p : ByteArray => 1 + p.size) ∘ mkB) = fun p => 1 + p.length := by funext p; show 1 + (mkB p).size = _; rw [mkB_size]
   rw [e]
   unfold labelsL
   by_cases h0 : s.data.toList = []
   · rw [if_pos h0, if_pos (by rw [hss, h0]; rfl)]; rfl
   · rw [if_neg h0, if_neg (by rw [hss]; have := List.length_pos_iff.2 h0; omega), split_sum, ← hss]
     show 0 + (s.size + 1) = _
     omega
end Go.Proofs.YtkpkfallgjdkmaaGreatDoor.Pure
