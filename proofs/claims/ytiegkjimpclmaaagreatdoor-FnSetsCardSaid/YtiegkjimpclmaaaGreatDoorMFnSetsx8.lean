/- FnSets: part 9 of 15 of my texts for this claim, joined; the theorem stands in the last. Conditions: none beyond the statement's. -/
import Derived.Test.YtiegkjimpclmaaaGreatDoorMFnSetsx7
import Derived.Lib.ItoaLen
import Derived.Sort.Walk0
import Derived.Sort.Statements
import Derived.Lib.SlicesCompact
open Go.RowKit Go.Proofs.YtiegkjimpclmaaaGreatDoorW.PrintWords Go.Proofs.YtiegkjimpclmaaaGreatDoorW.PrintLast Go.Proofs.YtiegkjimpclmaaaGreatDoorW.PrintMore
set_option linter.unusedVariables false
set_option linter.unusedSimpArgs false
set_option maxHeartbeats 8000000
set_option maxRecDepth 100000
namespace Go.Proofs.YtiegkjimpclmaaaGreatDoor.P
attribute [local go_sem] max2_int min2_int max_two min_two max_three min_three max_four min_four
attribute [local go_sem high] eqA45
mutual
def spec_l3Put.l0 : Nat → List (S45) → Int → ByteArray → Int → Int → ByteArray → Option ((List (S45)))
 | 0, _, _, _, _, _, _ => none
 | k + 1, x0, x5, x493000, x493001, x493002, x493003 => if x5 < (x0.length : Int) then (if 0 ≤ x5 then ((spec_l3Compare.f k ((rd_T45 x0 x5).f0) ((rd_T45 x0 x5).f1) ((rd_T45 x0 x5).f2) ((rd_T45 x0 x5).f3) x493000 x493001 x493002 x493003).bind fun t494 => (spec_l3Put.j1 k x0 x5 (decide (t494 < 0)) x493000 x493001 x493002 x493003)) else (none)) else (spec_l3Put.j1 k x0 x5 false x493000 x493001 x493002 x493003)
def spec_l3Put.j1 : Nat → List (S45) → Int → Bool → ByteArray → Int → Int → ByteArray → Option ((List (S45)))
 | 0, _, _, _, _, _, _, _ => none
 | k + 1, x0, x5, x19, x493000, x493001, x493002, x493003 => if x19 = true then (spec_l3Put.l0 k x0 (wrap64 (x5 + 1)) x493000 x493001 x493002 x493003) else (if x5 < (x0.length : Int) then (if 0 ≤ x5 then (spec_l3Put.j2 k x0 x5 ((((rd_T45 x0 x5).f0).toList) == x493000.toList && (((rd_T45 x0 x5).f1) == x493001 && (((rd_T45 x0 x5).f2) == x493002 && ((((rd_T45 x0 x5).f3).toList) == x493003.toList)))) x493000 x493001 x493002 x493003) else (none)) else (spec_l3Put.j2 k x0 x5 false x493000 x493001 x493002 x493003))
def spec_l3Put.j2 : Nat → List (S45) → Int → Bool → ByteArray → Int → Int → ByteArray → Option ((List (S45)))
 | 0, _, _, _, _, _, _, _ => none
 | k + 1, x0, x5, x33, x493000, x493001, x493002, x493003 => if x33 = true then (some x0) else (if 0 ≤ x5 then (if x5 ≤ (x0.length : Int) then ((some (x0.take (x5 : Int).toNat : List (S45))).bind fun y496 => (if ([] : List (S45)).length + y496.length < 2932031007402 then ((some (([] : List (S45)) ++ y496 : List (S45))).bind fun y500 => (if y500.length < 2932031007402 then ((some (y500 ++ [(⟨x493000, x493001, x493002, x493003⟩ : S45)] : List (S45))).bind fun y503 => ((some (x0.drop (x5 : Int).toNat : List (S45))).bind fun y506 => (if y503.length + y506.length < 2932031007402 then (some (y503 ++ y506)) else (none)))) else (none))) else (none))) else (none)) else (none))
end
def spec_l3Put.f (k : Nat) (l0 : List (S45)) (a1_0 : ByteArray) (a1_1 : Int) (a1_2 : Int) (a1_3 : ByteArray) : Option ((List (S45))) := spec_l3Put.l0 k l0 0 a1_0 a1_1 a1_2 a1_3
def spec_l3Put.T2 : Bool × List (List Nat × List Nat) := (true, [([], []), ([], []), ([1], [1]), ([0, 2], [0, 2]), ([3], [3]), ([4], [4]), ([4], [4]), ([5, 6, 4], [4, 5, 6]), ([7, 4], [4, 7]), ([4], [4]), ([8, 9, 4, 4], [4, 8, 9]), ([10, 4], [4, 10]), ([4, 11], [4, 11])])
def spec_l3Put.B2 : List Nat := [0, 0, 2, 7, 15, 31, 31, 127, 255, 31, 1023, 2047, 4095]
theorem spec_l3Put.tab2 : rtab .any (opsOf Tryz.f72 2) = spec_l3Put.T2 := by kernel_rfl
theorem spec_l3Put.bits2 : waitsOk spec_l3Put.T2.2 spec_l3Put.B2 = true := by kernel_rfl
def spec_l3Put.T4 : Bool × List (List Nat × List Nat) := (true, [([], []), ([], []), ([1], [1]), ([0, 2], [0, 2]), ([3], [3]), ([4], [4]), ([4], [4]), ([5, 6, 4], [4, 5, 6]), ([7, 4], [4, 7]), ([4], [4]), ([8, 9, 4], [4, 8, 9]), ([4, 10], [4, 10])])
def spec_l3Put.B4 : List Nat := [0, 0, 2, 7, 15, 31, 31, 127, 255, 31, 1023, 2047]
theorem spec_l3Put.tab4 : rtab .any (opsOf Tryz.f72 4) = spec_l3Put.T4 := by kernel_rfl
theorem spec_l3Put.bits4 : waitsOk spec_l3Put.T4.2 spec_l3Put.B4 = true := by kernel_rfl
theorem spec_l3Put.calls (k : Nat) (P0_ : Nat → Prop) (u9000_ : Value) (l0 : List (S45)) (a1_0 : ByteArray) (a1_1 : Int) (a1_2 : Int) (a1_3 : ByteArray) (r : List (S45)) (w0 w : World) (hB : Below w0.heap.size w0 w) (ho0 : Kd.R k45 45 w w0.heap.size P0_ u9000_ l0) (h : spec_l3Put.f k l0 a1_0 a1_1 a1_2 a1_3 = some r) :
 Calls Tryz.prog 72 #[u9000_, .agg #[.string a1_0, .int .i64 a1_1, .int .i64 a1_2, .string a1_3]] w fun e w' => ∃ v0_ : Value, e = .returned (v0_) ∧ Kd.R k45 45 w' w0.heap.size (fun k_ => (P0_ k_ ∨ w.heap.size ≤ k_)) v0_ r ∧ Below w0.heap.size w0 w' ∧ Kept w w' (fun k_ => P0_ k_) := by
 have hu45 := Tryz.underlying45
 have HO0 := a0_ (show Kd.R k45 45 w w0.heap.size (fun k_ => (P0_ k_ ∨ w.heap.size ≤ k_)) u9000_ l0 from Kd.R_mono ho0 (fun k_ hk => (.inl hk)))
 have HK := a0_ (Kept.refl w (fun k_ => P0_ k_))
 have HW0 := a0_ hB.size
 have HB := a0_ hB
 clear hB
 have H := h
 clear h
 unfold spec_l3Put.f at H
 have H' := a0_ H
 clear H
 go_enter Tryz.func72, Tryz.ntmps72
 go_wp2_with (first | ((with_reducible refine gate_dst (N := 3) rfl ?_); refine boxS_ 3 #[.string a1_0, .int .i64 a1_1, .int .i64 a1_2, .string a1_3] 45 (fun gb492 hg w3 hbox hb => ?_); replace HO0 := a0_ (Kd.R_below (Kd.R_elderB (kR_ HO0.out) gb492 (Nat.le_of_eq hg.symm)) hb); have BK492 := a0_ (hbox); have GW492 := a0_ ((by rw [hg]; exact (by first | exact HK.out.1 | exact (show Kept w _ (fun k_ => P0_ k_) from kp_).1) : w.heap.size ≤ gb492)); replace HK := a0_ (Kept.below (S := (fun k_ => P0_ k_)) kp_ hb); have GE492 := a0_ ((by rw [hg]; exact (below_size bq0_) : w0.heap.size ≤ gb492)); replace HB := a0_ (below_step bq0_ hb); clear hb hbox hg))
 go_loopg [5] k (fun kq v5 w' => ∃ (x5_1 : Int), v5 = .int .i64 x5_1 ∧ Aside0 (spec_l3Put.l0 kq l0 x5_1 a1_0 a1_1 a1_2 a1_3 = some r) ∧ Aside0 (kq ≤ k) ∧ Aside0 (Kd.R k45 45 w' w0.heap.size (fun k_ => (P0_ k_ ∨ w.heap.size ≤ k_) ∧ k_ ≠ gb492) u9000_ l0) ∧ Aside0 (w'.heap[gb492]? = some (.cells #[.string a1_0, .int .i64 a1_1, .int .i64 a1_2, .string a1_3] 45 (0, 0))) ∧ Aside0 (Kept w w' (fun k_ => P0_ k_)) ∧ Aside0 (Below w0.heap.size w0 w'))
 case atStart => exact ⟨(0), rs_, H', ⟨Nat.le_refl _⟩, ⟨kR_ HO0.out⟩, ⟨bz_⟩, ⟨kp_⟩, ⟨bq1_⟩⟩
 case round =>
  clear H'
  obtain ⟨x5_1, rfl, HA, HK1, HO_0, BK492, HK, HB⟩ := hrel
  cases gk with
  | zero => exact absurd HA.out (by simp [spec_l3Put.l0])
  | succ k1 =>
   have H := HA.out
   clear HA
   simp only [spec_l3Put.l0] at H
   have HC4 := a0_ H
   clear H
   go_upto_region 2 with (fail)
   go_cut [19] (fun v19 wc => ∃ (kq : Nat) (x19_3 : Bool), v19 = .bool x19_3 ∧ Aside0 (spec_l3Put.j1 kq l0 x5_1 x19_3 a1_0 a1_1 a1_2 a1_3 = some r) ∧ Aside0 (kq ≤ k1) ∧ Aside0 (Kd.R k45 45 wc w0.heap.size (fun k_ => (P0_ k_ ∨ w.heap.size ≤ k_) ∧ k_ ≠ gb492) u9000_ l0) ∧ Aside0 (wc.heap[gb492]? = some (.cells #[.string a1_0, .int .i64 a1_1, .int .i64 a1_2, .string a1_3] 45 (0, 0))) ∧ Aside0 (Kept w wc (fun k_ => P0_ k_)) ∧ Aside0 (Below w0.heap.size w0 wc))
   case first =>
    have H := HC4.out
    clear HC4
    by_cases c5 : x5_1 < (l0.length : Int)
    case neg =>
     rw [if_neg c5] at H
     have c5b0 := decide_eq_false c5
     clear c5
     (first | rw [c5b0] | (simp only [i64_w, i32_w]; rw [c5b0]) | skip)
     have H' := a0_ H
     clear H
     try go_wp2
     replace HO_0 := a0_ (Kd.R_drew HO_0.out)
     replace BK492 := a0_ (blk_drew BK492.out)
     replace HK := a0_ (Kept.drew HK.out)
     replace HB := a0_ (below_drew1 HB.out)
     obtain ⟨Ao12, co12, eo12⟩ := Kd.R_slice HO_0.out
     (first | subst eo12 | (injection eo12 with f1_ f2_ f3_; have f4_ := f1_.symm; have f5_ := f3_.symm; clear f1_ f2_ f3_; subst f4_; subst f5_))
     refine stH_ 13 [] ht_ (fun hHeld => ?_); refine with_tabW spec_l3Put.tab2 spec_l3Put.bits2 (fun HT_ HW_ => ?_)
     generalize wr.drew = w11 at HO_0 BK492 HK HB hHeld ⊢
     refine p_ 0 7 ?_
     refine p_ 1 8 ?_
     refine p_ 2 9 ?_
     refine p_ 3 10 ?_
     refine p_ 4 11 ?_
     refine s_ 5 12 ?_
     refine s_ 6 13 ?_
     refine s_ 7 14 ?_
     refine s_ 8 15 ?_
     refine s_ 9 16 ?_
     refine s_ 10 17 ?_
     refine s_ 11 18 ?_
     refine p_ 12 19 ?_
     refine done_ (done_of HT_.out (by kernel_rfl)) ?_
     try go_wp2
     go_meet
     case rel => exact ⟨_, (false), rs_, H', jl_ HK1, ⟨kR_ HO_0.out⟩, ⟨bz_⟩, ⟨kp_⟩, ⟨bq1_⟩⟩
    rw [if_pos c5] at H
    have c5b0 := decide_eq_true c5
    clear c5
    (first | rw [c5b0] | (simp only [i64_w, i32_w]; rw [c5b0]) | skip)
    by_cases c6 : 0 ≤ x5_1
    case neg =>
     rw [if_neg c6] at H
     exact absurd H (by simp)
    rw [if_pos c6] at H
    have c6b0 := decide_eq_true c6
    clear c6
    obtain ⟨t494, A7, H⟩ := ob_ H
    have H' := a0_ H
    clear H
    try go_wp2
    replace HO_0 := a0_ (Kd.R_drew HO_0.out)
    replace BK492 := a0_ (blk_drew BK492.out)
    replace HK := a0_ (Kept.drew HK.out)
    replace HB := a0_ (below_drew1 HB.out)
    obtain ⟨Ao9, co9, eo9⟩ := Kd.R_slice HO_0.out
    (first | subst eo9 | (injection eo9 with f1_ f2_ f3_; have f4_ := f1_.symm; have f5_ := f3_.symm; clear f1_ f2_ f3_; subst f4_; subst f5_))
    have p493 := t0_ (x5_1)
    have q493 := tl_ (x5_1) (l0.length)
    obtain ⟨ad493, e493, hx493_0, hx493_1, hx493_2, hx493_3⟩ := at_T45 (Kd.R_reads' HO_0.out).2.2 x5_1 (of_eq_true p493) (of_eq_true q493)
    cases e493
    refine stH_ 13 [] (cb_ BK492.out (e4_ hx493_0 hx493_1 hx493_2 hx493_3)) (fun hHeld => ?_); refine with_tabW spec_l3Put.tab2 spec_l3Put.bits2 (fun HT_ HW_ => ?_)
    generalize wr.drew = w8 at HO_0 BK492 HK HB hx493_0 hx493_1 hx493_2 hx493_3 hHeld ⊢
    refine p_ 0 7 ?_
    refine p_ 1 8 ?_
    refine p_ 2 9 ?_
    refine p_ 3 10 ?_
    refine p_ 4 11 ?_
    refine p_ 5 12 ?_
    refine p_ 6 13 ?_
    refine p_ 7 14 ?_
    refine t_ 8 15 ?_
    refine t_ 9 16 ?_
    refine oneS_ 10 (some 17) (fun K hK => ?_)
    refine goes_ Tryz.func62 (by kernel_rfl) rfl #[.agg #[.string ((rd_T45 l0 x5_1).f0), .int .i64 ((rd_T45 l0 x5_1).f1), .int .i64 ((rd_T45 l0 x5_1).f2), .string ((rd_T45 l0 x5_1).f3)], .agg #[.string a1_0, .int .i64 a1_1, .int .i64 a1_2, .string a1_3]] (by rfl) rfl rfl argsS_ ?_
    with_reducible refine (spec_l3Compare.calls k1 ((rd_T45 l0 x5_1).f0) ((rd_T45 l0 x5_1).f1) ((rd_T45 l0 x5_1).f2) ((rd_T45 l0 x5_1).f3) a1_0 a1_1 a1_2 a1_3 t494 _ A7.out).mono ?_
    rintro e w10 ⟨rfl, hb⟩
    have HS4_ := (hb.cell (World.block_lt_of_cell? _ _ (hHeld.2.2.2.2.1))).trans (hHeld.2.2.2.2.1)
    have HS5_ := (hb.cell (World.block_lt_of_cell? _ _ (hHeld.2.2.2.2.2.1))).trans (hHeld.2.2.2.2.2.1)
    have HS6_ := (hb.cell (World.block_lt_of_cell? _ _ (hHeld.2.2.2.2.2.2.1))).trans (hHeld.2.2.2.2.2.2.1)
    have HS7_ := (hb.cell (World.block_lt_of_cell? _ _ (hHeld.2.2.2.2.2.2.2))).trans (hHeld.2.2.2.2.2.2.2)
    refine ⟨_, rfl, ?_⟩
    replace HO_0 := a0_ (Kd.R_below (kR_ HO_0.out) hb)
    replace BK492 := a0_ (bkB_ BK492 hb)
    replace HK := a0_ (Kept.below (S := (fun k_ => P0_ k_)) kp_ hb)
    replace HB := a0_ (below_step bq1_ hb)
    (try clear hb)
    (try clear hb2)
    (try clear hk)
    (try clear hi)
    refine hK.out _ _ (cb_ BK492.out (c1_ HS4_ (c1_ HS5_ (c1_ HS6_ (e1_ HS7_))))).out (fun hHeld => ?_)
    clear hK K
    refine normS_ ?_
    refine p_ 11 18 ?_
    refine p_ 12 19 ?_
    refine done_ (done_of HT_.out (by kernel_rfl)) ?_
    try go_wp2
    go_meet
    case rel => exact ⟨_, (decide (t494 < 0)), rs_, H', jl_ HK1, ⟨kR_ HO_0.out⟩, ⟨bz_⟩, ⟨kp_⟩, ⟨bq1_⟩⟩
   case rest =>
    clear HC4
    try clear p2
    try clear p2
    obtain ⟨kq, x19_3, rfl, HA, HJ3, HO_0, BK492, HK, HB⟩ := hcut
    cases kq with
    | zero => exact absurd HA.out (by simp [spec_l3Put.j1])
    | succ kj3 =>
     have H := HA.out
     clear HA
     simp only [spec_l3Put.j1] at H
     by_cases c13 : x19_3 = true
     case pos =>
      subst c13
      rw [if_pos rfl] at H
      have H' := a0_ H
      clear H
      go_wp2
      go_roundg kj3
      case measure => have := HK1.out; have := HJ3.out; omega
      case rel => exact ⟨(wrap64 (x5_1 + 1)), rs_, H', jm_ HK1 HJ3, ⟨kR_ HO_0.out⟩, ⟨bz_⟩, ⟨kp_⟩, ⟨bq1_⟩⟩
     replace c13 := Bool.eq_false_iff.mpr c13
     subst c13
     rw [if_neg ff_] at H
     have HC14 := a0_ H
     clear H
     go_upto_region 4 with (fail)
     go_cut [33] (fun v33 wc => ∃ (kq : Nat) (x33_13 : Bool), v33 = .bool x33_13 ∧ Aside0 (spec_l3Put.j2 kq l0 x5_1 x33_13 a1_0 a1_1 a1_2 a1_3 = some r) ∧ Aside0 (kq ≤ kj3) ∧ Aside0 (Kd.R k45 45 wc w0.heap.size (fun k_ => (P0_ k_ ∨ w.heap.size ≤ k_) ∧ k_ ≠ gb492) u9000_ l0) ∧ Aside0 (wc.heap[gb492]? = some (.cells #[.string a1_0, .int .i64 a1_1, .int .i64 a1_2, .string a1_3] 45 (0, 0))) ∧ Aside0 (Kept w wc (fun k_ => P0_ k_)) ∧ Aside0 (Below w0.heap.size w0 wc))
     case first =>
      have H := HC14.out
      clear HC14
      by_cases c15 : x5_1 < (l0.length : Int)
      case neg =>
       rw [if_neg c15] at H
       have c15b0 := decide_eq_false c15
       clear c15
       (first | rw [c15b0] | (simp only [i64_w, i32_w]; rw [c15b0]) | skip)
       have H' := a0_ H
       clear H
       try go_wp2
       replace HO_0 := a0_ (Kd.R_drew HO_0.out)
       replace BK492 := a0_ (blk_drew BK492.out)
       replace HK := a0_ (Kept.drew HK.out)
       replace HB := a0_ (below_drew1 HB.out)
       obtain ⟨Ao20, co20, eo20⟩ := Kd.R_slice HO_0.out
       (first | subst eo20 | (injection eo20 with f1_ f2_ f3_; have f4_ := f1_.symm; have f5_ := f3_.symm; clear f1_ f2_ f3_; subst f4_; subst f5_))
       refine stH_ 12 [] ht_ (fun hHeld => ?_); refine with_tabW spec_l3Put.tab4 spec_l3Put.bits4 (fun HT_ HW_ => ?_)
       generalize wc.drew = w19 at HO_0 BK492 HK HB hHeld ⊢
       refine p_ 0 22 ?_
       refine p_ 1 23 ?_
       refine p_ 2 24 ?_
       refine p_ 3 25 ?_
       refine p_ 4 26 ?_
       refine s_ 5 27 ?_
       refine s_ 6 28 ?_
       refine s_ 7 29 ?_
       refine s_ 8 30 ?_
       refine s_ 9 31 ?_
       refine s_ 10 32 ?_
       refine p_ 11 33 ?_
       refine done_ (done_of HT_.out (by kernel_rfl)) ?_
       try go_wp2
       go_meet
       case rel => exact ⟨_, (false), rs_, H', ⟨by have := HK1.out; have := HJ3.out; first | omega | exact Nat.le_refl _⟩, ⟨kR_ HO_0.out⟩, ⟨bz_⟩, ⟨kp_⟩, ⟨bq1_⟩⟩
      rw [if_pos c15] at H
      have c15b0 := decide_eq_true c15
      clear c15
      (first | rw [c15b0] | (simp only [i64_w, i32_w]; rw [c15b0]) | skip)
      by_cases c16 : 0 ≤ x5_1
      case neg =>
       rw [if_neg c16] at H
       exact absurd H (by simp)
      rw [if_pos c16] at H
      have c16b0 := decide_eq_true c16
      clear c16
      have H' := a0_ H
      clear H
      try go_wp2
      replace HO_0 := a0_ (Kd.R_drew HO_0.out)
      replace BK492 := a0_ (blk_drew BK492.out)
      replace HK := a0_ (Kept.drew HK.out)
      replace HB := a0_ (below_drew1 HB.out)
      obtain ⟨Ao18, co18, eo18⟩ := Kd.R_slice HO_0.out
      (first | subst eo18 | (injection eo18 with f1_ f2_ f3_; have f4_ := f1_.symm; have f5_ := f3_.symm; clear f1_ f2_ f3_; subst f4_; subst f5_))
      have p495 := t0_ (x5_1)
      have q495 := tl_ (x5_1) (l0.length)
      obtain ⟨ad495, e495, hx495_0, hx495_1, hx495_2, hx495_3⟩ := at_T45 (Kd.R_reads' HO_0.out).2.2 x5_1 (of_eq_true p495) (of_eq_true q495)
      cases e495
      refine stH_ 12 [] (cb_ BK492.out (e4_ hx495_0 hx495_1 hx495_2 hx495_3)) (fun hHeld => ?_); refine with_tabW spec_l3Put.tab4 spec_l3Put.bits4 (fun HT_ HW_ => ?_)
      generalize wc.drew = w17 at HO_0 BK492 HK HB hx495_0 hx495_1 hx495_2 hx495_3 hHeld ⊢
      refine p_ 0 22 ?_
      refine p_ 1 23 ?_
      refine p_ 2 24 ?_
      refine p_ 3 25 ?_
      refine p_ 4 26 ?_
      refine p_ 5 27 ?_
      refine p_ 6 28 ?_
      refine p_ 7 29 ?_
      refine t_ 8 30 ?_
      refine t_ 9 31 ?_
      refine p_ 10 32 ?_
      refine p_ 11 33 ?_
      refine done_ (done_of HT_.out (by kernel_rfl)) ?_
      try go_wp2
      go_meet
      case rel => exact ⟨_, (((((rd_T45 l0 x5_1).f0).toList) == a1_0.toList && (((rd_T45 l0 x5_1).f1) == a1_1 && (((rd_T45 l0 x5_1).f2) == a1_2 && ((((rd_T45 l0 x5_1).f3).toList) == a1_3.toList))))), rs_, H', ⟨by have := HK1.out; have := HJ3.out; first | omega | exact Nat.le_refl _⟩, ⟨kR_ HO_0.out⟩, ⟨bz_⟩, ⟨kp_⟩, ⟨bq1_⟩⟩
     case rest =>
      clear HC14
      try clear p2
      try clear p4
      try clear q4
      try clear hx4
      try clear c5
      try clear c5b0
      try clear c6
      try clear c6b0
      try clear c7
      try clear c13
      try clear hx493_0
      try clear hx493_1
      try clear hx493_2
      try clear hx493_3
      try clear p2
      try clear p4
      try clear p493
      try clear q4
      try clear q493
      obtain ⟨kq, x33_13, rfl, HA, HJ13, HO_0, BK492, HK, HB⟩ := hcut
      cases kq with
      | zero => exact absurd HA.out (by simp [spec_l3Put.j2])
      | succ kj13 =>
       have H := HA.out
       clear HA
       simp only [spec_l3Put.j2] at H
       by_cases c21 : x33_13 = true
       case pos =>
        subst c21
        rw [if_pos rfl] at H
        obtain rfl := Option.some.inj H
        go_wp2
        go_ret
        exact ⟨_, rr_, by (with_reducible repeat (first | apply Kd.R_alloc | apply Kd.R_drewN | apply Kd.R_drew)); exact Kd.R_mono HO_0.out (fun _ hk => hk.1), bq1_, by repeat (first | (with_reducible first | exact HK.out | apply Kept.alloc | apply Kept.drewN | apply Kept.drew | refine Kept.setCell ?_ (.inr GW492.out) _) | exact HK.out)⟩
       replace c21 := Bool.eq_false_iff.mpr c21
       subst c21
       rw [if_neg ff_] at H
       by_cases c22 : 0 ≤ x5_1
       case neg =>
        rw [if_neg c22] at H
        exact absurd H (by simp)
       rw [if_pos c22] at H
       have c22b0 := eq_true c22
       have c22b1 := decide_eq_true c22
       clear c22
       by_cases c23 : x5_1 ≤ (l0.length : Int)
       case neg =>
        rw [if_neg c23] at H
        exact absurd H (by simp)
       rw [if_pos c23] at H
       have c23b0 := eq_true c23
       have c23b1 := decide_eq_true c23
       clear c23
       obtain ⟨y496, hy496⟩ : ∃ y_ : List (S45), y_ = (l0.take (x5_1 : Int).toNat) := ⟨_, rfl⟩
       replace H := by_ hy496 H
       have Ny496 := a0_ hy496
       clear hy496
       by_cases c24 : ([] : List (S45)).length + y496.length < 2932031007402
       case neg =>
        rw [if_neg c24] at H
        exact absurd H (by simp)
       rw [if_pos c24] at H
       have LMc24 := a0_ c24
       clear c24
       obtain ⟨y500, hy500⟩ : ∃ y_ : List (S45), y_ = (([] : List (S45)) ++ y496) := ⟨_, rfl⟩
       replace H := by_ hy500 H
       have Ny500 := a0_ hy500
       clear hy500
       by_cases c25 : y500.length < 2932031007402
       case neg =>
        rw [if_neg c25] at H
        exact absurd H (by simp)
       rw [if_pos c25] at H
       have LMc25 := a0_ c25
       clear c25
       obtain ⟨y503, hy503⟩ : ∃ y_ : List (S45), y_ = (y500 ++ [(⟨a1_0, a1_1, a1_2, a1_3⟩ : S45)]) := ⟨_, rfl⟩
       replace H := by_ hy503 H
       have Ny503 := a0_ hy503
       clear hy503
       have c26b0 := eq_true (dec_ : 0 ≤ x5_1)
       have c27b0 := eq_true (dec_ : x5_1 ≤ (l0.length : Int))
       obtain ⟨y506, hy506⟩ : ∃ y_ : List (S45), y_ = (l0.drop (x5_1 : Int).toNat) := ⟨_, rfl⟩
       replace H := by_ hy506 H
       have Ny506 := a0_ hy506
       clear hy506
       by_cases c28 : y503.length + y506.length < 2932031007402
       case neg =>
        rw [if_neg c28] at H
        exact absurd H (by simp)
       rw [if_pos c28] at H
       have LMc28 := a0_ c28
       clear c28
       obtain ⟨y510, hy510⟩ : ∃ y_ : List (S45), y_ = (y503 ++ y506) := ⟨_, rfl⟩
       replace H : (some y510) = some r := by first | (rw [hy510]; with_reducible exact H) | (have H2_ := (Option.bind_some _ _).symm.trans H; rw [hy510]; with_reducible exact H2_) | (have H2_ := (Option.bind_some _ _).symm.trans H; with_reducible exact H2_) | with_reducible exact H | (rw [hy510]; exact H) | exact H
       have Ny510 := a0_ hy510
       clear hy510
       obtain rfl := Option.some.inj H
       obtain ⟨Ao30, co30, eo30⟩ := Kd.R_slice HO_0.out
       subst eo30
       have q29 : (x5_1 : Int) ≤ ((l0.length : Int) : Int) := dec_
       obtain ⟨i029, hi029, _, hsz29, _⟩ := info_parts info45
       have hroom29 : l0.length ≤ co30 := (Kd.R_reads' HO_0.out).2.1
       have hC29 : Kd.C k45 _ Ao30 l0.length l0 := (Kd.R_reads' HO_0.out).2.2
       have hcut29 := cut_to (P := Tryz.prog) 27 45 .i64 Tryz.underlying27 hi029 Ao30 l0.length co30 x5_1 (dec_) q29 hroom29
       have hr29 := Kd.C_take (m := (x5_1 : Int).toNat) hC29 (by omega)
       have hy29 : y496.length = (x5_1 : Int).toNat := (by rw [Ny496.out, List.length_take]; omega)
       rw [← Ny496.out] at hr29
       rw [← hy29] at hcut29
       have HR499 := a0_ hr29
       have HC499 := a0_ (show y496.length ≤ co30 from by omega)
       clear hr29 hC29 hroom29 hi029 hsz29
       have KY29 := a0_ hy29
       clear hy29
       have KL29 := a0_ (show (x5_1 : Int).toNat ≤ l0.length from by omega)
       replace q29 := eq_true q29
       go_wp2_with (first | ((with_reducible refine gate_builtin (b := .append) (xs := #[.tmp 35, .tmp 38]) rfl ?_); at_builtin; refine Kd.R_append_rows k45 (w0 := w0) w0.heap.size rfl (.tmp 35) (.tmp 38) 27 45 (.agg #[(.string ⟨#[]⟩), (.int .i64 0), (.int .i64 0), (.string ⟨#[]⟩)]) 48 rfl Tryz.underlying27 info45 rfl (by decide) (by omega) (.slice none 0 0) ([] : List (S45)) y496 _ _ _ (fun k_ => (P0_ k_ ∨ w.heap.size ≤ k_) ∧ nw_ k_ Ao30 l0.length co30 ∧ k_ ≠ gb492) (fun _ => False) rfl rfl ?aO ?aR (fun _ _ h => h) (fun _ h => h.elim) ?aF ?aB ?aS ?aL ?_; (case aR => exact kD_ HR499.out); (case aB => exact bq1_); (case aF => exact (fun k_ hk => ⟨(.inr (Nat.le_trans (by first | exact HK.out.1 | exact (show Kept w _ (fun k_ => P0_ k_) from kp_).1) hk)), Kd.fresh' (Kd.R_lt (kR_ HO_0.out)) k_ hk, Kd.freshB (g := gb492) (o := .cells #[.string a1_0, .int .i64 a1_1, .int .i64 a1_2, .string a1_3] 45 (0, 0)) (kB_ BK492.out) k_ hk⟩)); (case aO => exact ((Kd.R_nil _ _ _ _ (fun k_ => (P0_ k_ ∨ w.heap.size ≤ k_) ∧ nw_ k_ Ao30 l0.length co30 ∧ k_ ≠ gb492)))); (case aS => exact (below_size bq1_)); (case aL => have := LMc24.out; omega); intro v501 w31 ho hb hg hat; rw [← Ny500.out] at ho; replace BK492 := a0_ (blk_grown (g := gb492) (o := .cells #[.string a1_0, .int .i64 a1_1, .int .i64 a1_2, .string a1_3] 45 (0, 0)) (kB_ BK492.out) hg (by simp [Value.ownBlock])); replace HB := a0_ (hb); replace HK := a0_ (Kept.of_grown (S := (fun k_ => P0_ k_)) hg kp_ (fun k_ e_ => by simp [Value.ownBlock] at e_)); replace HR499 := a0_ ((show Kd.C k45 w31 Ao30 y496.length y496 from by rw [Ny496.out]; exact Kd.C_take (m := (x5_1 : Int).toNat) ((Kd.R_reads' (Kd.R_after (Kd.R_apart_nil (kR_ HO_0.out)) hg hat)).2.2) KL29.out)); replace HO_0 := a0_ (Kd.R_after (Kd.R_apart_nil (kR_ HO_0.out)) hg hat); have HO502 := a0_ (ho); clear ho hb hg hat; obtain ⟨_, _, _, _, _, _, _, _⟩ := bk4_ BK492.out) | ((with_reducible refine gate_builtin (b := .append) (xs := #[.tmp 40, .tmp 42]) rfl ?_); at_builtin; refine Kd.R_append k45 (w0 := w0) w0.heap.size rfl (.tmp 40) (.tmp 42) 27 45 (.agg #[(.string ⟨#[]⟩), (.int .i64 0), (.int .i64 0), (.string ⟨#[]⟩)]) 48 rfl Tryz.underlying27 info45 rfl (by decide) (by omega) v501 y500 (⟨a1_0, a1_1, a1_2, a1_3⟩ : S45) [.string a1_0, .int .i64 a1_1, .int .i64 a1_2, .string a1_3] (fun k_ => (P0_ k_ ∨ w.heap.size ≤ k_) ∧ nw_ k_ Ao30 l0.length co30 ∧ k_ ≠ gb492) (fun _ => False) rfl rfl ?aP (fun _ hk => hk.elim) ?aF ?aO ?aB ?aS ?aL ?_; (case aP => exact k45_mkM _ _ _ (⟨a1_0, a1_1, a1_2, a1_3⟩ : S45)); (case aB => exact bq1_); (case aF => exact (fun k_ hk => ⟨(.inr (Nat.le_trans (by first | exact HK.out.1 | exact (show Kept w _ (fun k_ => P0_ k_) from kp_).1) hk)), Kd.fresh' (Kd.R_lt (kR_ HO_0.out)) k_ hk, Kd.freshB (g := gb492) (o := .cells #[.string a1_0, .int .i64 a1_1, .int .i64 a1_2, .string a1_3] 45 (0, 0)) (kB_ BK492.out) k_ hk⟩)); (case aO => exact (kR_ HO502.out)); (case aS => exact (below_size bq1_)); (case aL => have := LMc25.out; omega); intro v504 w33 ho hb hg hat; rw [← Ny503.out] at ho; replace BK492 := a0_ (blk_grown (g := gb492) (o := .cells #[.string a1_0, .int .i64 a1_1, .int .i64 a1_2, .string a1_3] 45 (0, 0)) (kB_ BK492.out) hg (Kd.R_away HO502.out (fun _ hk => hk.2.2))); replace HB := a0_ (hb); replace HK := a0_ (Kept.of_grown (S := (fun k_ => P0_ k_)) hg kp_ (fun k_ e_ => (HO502.out.1 k_ e_).1)); replace HR499 := a0_ ((show Kd.C k45 w33 Ao30 y496.length y496 from by rw [Ny496.out]; exact Kd.C_take (m := (x5_1 : Int).toNat) ((Kd.R_reads' (Kd.R_after (ok := (fun k_ => (P0_ k_ ∨ w.heap.size ≤ k_) ∧ k_ ≠ gb492)) (kR_ HO_0.out) hg hat)).2.2) KL29.out)); replace HO_0 := a0_ (Kd.R_after (ok := (fun k_ => (P0_ k_ ∨ w.heap.size ≤ k_) ∧ k_ ≠ gb492)) (kR_ HO_0.out) hg hat); have HO505 := a0_ (ho); clear HO502; clear ho hb hg hat; have q34 : (x5_1 : Int) ≤ ((l0.length : Int) : Int) := dec_; obtain ⟨i034, hi034, _, hsz34, _⟩ := info_parts info45; have hroom34 : l0.length ≤ co30 := (Kd.R_reads' HO_0.out).2.1; have hC34 : Kd.C k45 _ Ao30 l0.length l0 := (Kd.R_reads' HO_0.out).2.2; have q034 : (0 : Int) ≤ (x5_1 : Int) := dec_; have hcut34 := cut_from (P := Tryz.prog) 27 45 .i64 Tryz.underlying27 hi034 4 hsz34 Ao30 l0.length co30 x5_1 q034 q34; have hr34 := Kd.C_drop (m := (x5_1 : Int).toNat) (c := co30) hC34 (by omega) hroom34; obtain ⟨A34, hA34⟩ : ∃ A1, A1 = (if co30 = (x5_1 : Int).toNat then Ao30 else (Ao30 : Option Addr).map (·.add ((x5_1 : Int).toNat * 4))) := ⟨_, rfl⟩; obtain ⟨c34, hc34⟩ : ∃ c1, c1 = co30 - (x5_1 : Int).toNat := ⟨_, rfl⟩; have hy34 : y506.length = l0.length - (x5_1 : Int).toNat := (by rw [Ny506.out, List.length_drop] <;> omega); rw [show (l0).drop (x5_1 : Int).toNat = y506 from Ny506.out.symm] at hr34; replace hr34 : Kd.C k45 _ A34 y506.length y506 := (by rw [hA34]; exact hr34); rw [← hy34, ← hA34, ← hc34] at hcut34; have HR509 := a0_ hr34; have HC509 := a0_ (show y506.length ≤ c34 from by rw [hy34, hc34]; exact Nat.sub_le_sub_right hroom34 _); clear hr34 hC34 hroom34 hi034 hsz34 hc34; have KY34 := a0_ hy34; have KA34 := a0_ hA34; clear hy34 hA34; have KL34 := a0_ (show (x5_1 : Int).toNat ≤ l0.length from by omega); replace q34 := eq_true q34) | ((with_reducible refine gate_builtin (b := .append) (xs := #[.tmp 44, .tmp 47]) rfl ?_); at_builtin; refine Kd.R_append_rows k45 (w0 := w0) w0.heap.size rfl (.tmp 44) (.tmp 47) 27 45 (.agg #[(.string ⟨#[]⟩), (.int .i64 0), (.int .i64 0), (.string ⟨#[]⟩)]) 48 rfl Tryz.underlying27 info45 rfl (by decide) (by omega) v504 y503 y506 _ _ _ (fun k_ => (P0_ k_ ∨ w.heap.size ≤ k_) ∧ nw_ k_ Ao30 l0.length co30 ∧ k_ ≠ gb492) (fun _ => False) rfl rfl ?aO ?aR (fun _ _ h => h) (fun _ h => h.elim) ?aF ?aB ?aS ?aL ?_; (case aR => exact kD_ HR509.out); (case aB => exact bq1_); (case aF => exact (fun k_ hk => ⟨(.inr (Nat.le_trans (by first | exact HK.out.1 | exact (show Kept w _ (fun k_ => P0_ k_) from kp_).1) hk)), Kd.fresh' (Kd.R_lt (kR_ HO_0.out)) k_ hk, Kd.freshB (g := gb492) (o := .cells #[.string a1_0, .int .i64 a1_1, .int .i64 a1_2, .string a1_3] 45 (0, 0)) (kB_ BK492.out) k_ hk⟩)); (case aO => exact (kR_ HO505.out)); (case aS => exact (below_size bq1_)); (case aL => have := LMc28.out; omega); intro v511 w35 ho hb hg hat; rw [← Ny510.out] at ho; replace BK492 := a0_ (blk_grown (g := gb492) (o := .cells #[.string a1_0, .int .i64 a1_1, .int .i64 a1_2, .string a1_3] 45 (0, 0)) (kB_ BK492.out) hg (Kd.R_away HO505.out (fun _ hk => hk.2.2))); replace HB := a0_ (hb); replace HK := a0_ (Kept.of_grown (S := (fun k_ => P0_ k_)) hg kp_ (fun k_ e_ => (HO505.out.1 k_ e_).1)); replace HR499 := a0_ ((show Kd.C k45 w35 Ao30 y496.length y496 from by rw [Ny496.out]; exact Kd.C_take (m := (x5_1 : Int).toNat) ((Kd.R_reads' (Kd.R_after (ok := (fun k_ => (P0_ k_ ∨ w.heap.size ≤ k_) ∧ k_ ≠ gb492)) (kR_ HO_0.out) hg hat)).2.2) KL29.out)); replace HR509 := a0_ ((show Kd.C k45 w35 A34 y506.length y506 from by rw [Ny506.out, KA34.out]; exact Kd.C_drop (m := (x5_1 : Int).toNat) (c := co30) ((Kd.R_reads' (Kd.R_after (ok := (fun k_ => (P0_ k_ ∨ w.heap.size ≤ k_) ∧ k_ ≠ gb492)) (kR_ HO_0.out) hg hat)).2.2) KL34.out ((Kd.R_reads' (Kd.R_after (ok := (fun k_ => (P0_ k_ ∨ w.heap.size ≤ k_) ∧ k_ ≠ gb492)) (kR_ HO_0.out) hg hat)).2.1))); replace HO_0 := a0_ (Kd.R_after (ok := (fun k_ => (P0_ k_ ∨ w.heap.size ≤ k_) ∧ k_ ≠ gb492)) (kR_ HO_0.out) hg hat); have HO512 := a0_ (ho); clear HO505; clear ho hb hg hat))
       go_ret
       exact ⟨_, rr_, by (with_reducible repeat (first | apply Kd.R_alloc | apply Kd.R_drewN | apply Kd.R_drew)); exact Kd.R_mono HO512.out (fun _ hk => hk.1), bq1_, by repeat (first | (with_reducible first | exact HK.out | apply Kept.alloc | apply Kept.drewN | apply Kept.drew | refine Kept.setCell ?_ (.inr GW492.out) _) | exact HK.out)⟩
end Go.Proofs.YtiegkjimpclmaaaGreatDoor.P
namespace Go.Proofs.YtiegkjimpclmaaaGreatDoor.P
def lowB (b : UInt8) : UInt8 := if 65 ≤ b.toNat ∧ b.toNat ≤ 90 then b + 32 else b
def lowV (s : ByteArray) (j : Nat) : Int := ((lowB (s.data.toList.getD j 0)).toNat : Int)
def SmallAt (w : World) (g : Nat) (s : ByteArray) (kk : Nat) : Prop :=
 ∃ cs e fz, w.heap[g]? = some (.cells cs e fz) ∧ s.size ≤ fz.1 ∧ s.size ≤ cs.size ∧
  ∀ j, j < s.size → cs[j]? = some (.int .u8 (if j < kk then lowV s j else ((s.data.toList.getD j 0).toNat : Int)))
theorem SmallAt.cell {w : World} {g : Nat} {s : ByteArray} {kk : Nat} (h : SmallAt w g s kk) (j : Nat) (hj : j < s.size) : w.cell? ⟨g, j, none⟩ = some (.int .u8 (if j < kk then lowV s j else ((s.data.toList.getD j 0).toNat : Int))) := by
 obtain ⟨cs, e, fz, h1, h2, h3, h4⟩ := h
 simp [World.cell?, h1, h4 j hj]
theorem SmallAt.free {w : World} {g : Nat} {s : ByteArray} {kk : Nat} (h : SmallAt w g s kk) (j : Nat) (hj : j < s.size) : w.frozen? ⟨g, j, none⟩ = false := by
 obtain ⟨cs, e, fz, h1, h2, h3, h4⟩ := h
 obtain ⟨lo, hi⟩ := fz
 simp only [World.frozen?, h1, Bool.and_eq_false_iff, decide_eq_false_iff_not]
 left
 simp only at h2
 omega
theorem low_skip {b : UInt8} (h : ¬ (65 ≤ b.toNat ∧ b.toNat ≤ 90)) : lowB b = b := by unfold lowB; rw [if_neg h]
theorem SmallAt.skip {w : World} {g : Nat} {s : ByteArray} {kk : Nat} (h : SmallAt w g s kk) (hk : ¬ (65 ≤ (s.data.toList.getD kk 0).toNat ∧ (s.data.toList.getD kk 0).toNat ≤ 90)) : SmallAt w g s (kk + 1) := by
 obtain ⟨cs, e, fz, h1, h2, h3, h4⟩ := h
 refine ⟨cs, e, fz, h1, h2, h3, fun j hj => ?_⟩
 rw [h4 j hj]
 by_cases e1 : j < kk
 · rw [if_pos e1, if_pos (by omega)]
 · rw [if_neg e1]
   by_cases e2 : j = kk
   · subst e2
     rw [if_pos (by omega)]
     unfold lowV
     rw [low_skip hk]
   · rw [if_neg (by omega)]
theorem SmallAt.step {w : World} {g : Nat} {s : ByteArray} {kk : Nat} (h : SmallAt w g s kk) (hlt : kk < s.size) (v : Int) (hv : v = lowV s kk) : SmallAt (w.setCell ⟨g, kk, none⟩ (.int .u8 v)) g s (kk + 1) := by
 obtain ⟨cs, e, fz, h1, h2, h3, h4⟩ := h
 subst hv
 refine ⟨_, e, fz, by rw [setCell_eq_setRow w g kk cs e fz _ h1]; exact setRow_heap w g cs _ e fz h1, h2, by simpa using h3, fun j hj => ?_⟩
 rw [Array.getElem?_setIfInBounds]
 by_cases e2 : kk = j
 · subst e2
   rw [if_pos rfl, if_pos (by omega), if_pos (by omega)]
 · rw [if_neg e2, h4 j hj]
   by_cases e1 : j < kk
   · rw [if_pos e1, if_pos (by omega)]
   · rw [if_neg e1, if_neg (by omega)]
theorem SmallAt.below {w0 w : World} {g : Nat} {s : ByteArray} {kk : Nat} (h : SmallAt w g s kk) (hb : Below w0.heap.size w0 w) (hg : w0.heap.size ≤ g) (v : Value) : Below w0.heap.size w0 (w.setCell ⟨g, kk, none⟩ v) := by
 obtain ⟨cs, e, fz, h1, h2, h3, h4⟩ := h
 rw [setCell_eq_setRow w g kk cs e fz _ h1]
 exact ⟨hb.os, hb.tape, hb.output, by rw [setRow_size]; exact hb.size, fun k hk => by rw [setRow_other w g k _ (by omega)]; exact hb.block k hk⟩
def lowNums (s : ByteArray) : List Int := (List.range s.size).map (lowV s)
theorem SmallAt.reads {w : World} {g : Nat} {s : ByteArray} (h : SmallAt w g s s.size) (hs : s.size < 1099511627776) : ReadsInt w .u8 (some ⟨g, 0, none⟩) s.size (lowNums s) := by
 refine ⟨by simp [lowNums], by omega, fun _ => ⟨_, rfl, fun j hj => ?_⟩⟩
 have := h.cell j hj
 rw [if_pos hj] at this
 rw [add_plain, this]
 simp [lowNums, List.getD_eq_getElem?_getD, hj]
def impl_small.f (s : ByteArray) : Option ByteArray := if s.size < 1099511627776 then some (mkB (s.data.toList.map lowB)) else none
end Go.Proofs.YtiegkjimpclmaaaGreatDoor.P
namespace Go.Proofs.YtiegkjimpclmaaaGreatDoor.Pure
open Go.Proofs.YtiegkjimpclmaaaGreatDoor.P
theorem nb_rd (l : List ByteArray) (i : Nat) (h : i < l.length) : rdOf ByteArray.empty l (i : Int) = l[i] := by
 unfold rdOf
 rw [Int.toNat_natCast, List.getD_eq_getElem?_getD, List.getElem?_eq_getElem h]
 rfl
theorem nb_loops (parts : List ByteArray) (hp : ∀ p ∈ parts, p.size ≤ 1000) (hl : parts.length ≤ 1000) : ∀ (m i : Nat) (acc : ByteArray), i + m = parts.length → acc.size + m * 1024 < 1099511627776 →
 ∃ r, Ev (fun k => impl_labelBytes.l0 k acc parts (parts.length : Int) (i : Int)) r ∧ Ev (fun k => spec_l2Bytes.l0 k acc parts (parts.length : Int) (i : Int)) (r ++ (⟨#[0]⟩ : ByteArray)) ∧ r.size = acc.size + ((parts.drop i).map fun p => 1 + p.size).sum ∧ r.size < 1099511627776
 | 0, i, acc, him, ha => by
  refine ⟨acc, Ev.step (f := fun _ => some acc) (fun k => ?_) (Ev.now _), Ev.step (f := fun _ => some (acc ++ (⟨#[0]⟩ : ByteArray))) (fun k => ?_) (Ev.now _), by rw [List.drop_of_length_le (by omega)]; rfl, by omega⟩
  · show impl_labelBytes.l0 (k + 1) acc parts (parts.length : Int) (i : Int) = _
    unfold impl_labelBytes.l0
    rw [if_neg (by omega)]
  · show spec_l2Bytes.l0 (k + 1) acc parts (parts.length : Int) (i : Int) = _
    unfold spec_l2Bytes.l0
    rw [if_neg (by omega), if_pos (by omega)]
 | m + 1, i, acc, him, ha => by
  have hi : i < parts.length := by omega
  have hs : ∀ v : Int, (strOfNums [v]).size = 1 := fun v => by rw [strOfNums_size]; rfl
  have hpi := hp _ (List.getElem_mem hi)
  obtain ⟨r, h1, h2, h3, h4⟩ := nb_loops parts hp hl m (i + 1) (acc ++ (strOfNums [((parts[i].size : Int)) % 256] ++ parts[i])) (by omega) (by
   rw [ByteArray.size_append, ByteArray.size_append, hs]; omega)
  refine ⟨r, Ev.step (fun k => ?_) h1, Ev.step (fun k => ?_) h2, ?_, h4⟩
  · show impl_labelBytes.l0 (k + 1) acc parts (parts.length : Int) (i : Int) = _
    conv => lhs; unfold impl_labelBytes.l0
    rw [if_pos (by omega), if_pos (by omega), if_pos (by omega), nb_rd _ _ hi, Option.bind_some, if_pos (by rw [hs]; omega), if_pos (by rw [ByteArray.size_append, hs]; omega), w64n (by omega)]
  · show spec_l2Bytes.l0 (k + 1) acc parts (parts.length : Int) (i : Int) = _
    conv => lhs; unfold spec_l2Bytes.l0
    rw [if_pos (by omega), if_pos (by omega), if_pos (by omega), nb_rd _ _ hi, Option.bind_some, if_pos (by rw [hs]; omega), if_pos (by rw [ByteArray.size_append, hs]; omega), w64n (by omega)]
  · rw [h3, ByteArray.size_append, ByteArray.size_append, hs, List.drop_eq_getElem_cons hi, List.map_cons, List.sum_cons]
    omega
theorem split_sum : ∀ l : List UInt8, ((splitL 46 l).map fun p => 1 + p.length).sum = l.length + 1
 | [] => rfl
 | x :: xs => by
  have ih := split_sum xs
  unfold splitL
  split
  · rw [List.map_cons, List.sum_cons, ih, List.length_cons, List.length_nil]
    omega
  · cases hs : splitL 46 xs with
    | nil => exact absurd hs (splitL_ne 46 xs)
    | cons p ps =>
     rw [hs, List.map_cons, List.sum_cons] at ih
     rw [List.map_cons, List.sum_cons, List.length_cons, List.length_cons]
     omega
theorem nb_both (s : ByteArray) (h : goodL s.data.toList = true) : ∃ r, Ev (fun k => impl_labelBytes.f k s) r ∧ Ev (fun k => spec_l2Bytes.f k s) (r ++ (⟨#[0]⟩ : ByteArray)) ∧ r.size = (if s.size = 0 then 0 else s.size + 1) := by
 have hg := good_size h
 have hss := size_len s
 obtain ⟨q, e1, e2, e3⟩ := labels_ev s (by omega)
 have e3 := e3 (e2.trans h)
 have hlen : (labelsL s.data.toList).length ≤ 61 := by
  unfold labelsL
  split
  · simp
  · have := splitL_len 46 s.data.toList; omega
 obtain ⟨r, h1, h2, h3, h4⟩ := nb_loops ((labelsL s.data.toList).map mkB) (by
  intro p hp
  obtain ⟨x, hx, rfl⟩ := List.mem_map.1 hp
  rw [mkB_size]
  unfold labelsL at hx
  split at hx
  · cases hx
  · have := splitL_part 46 _ x hx; omega) (by rw [List.length_map]; omega) _ 0 (⟨#[]⟩ : ByteArray) (Nat.zero_add _) (by rw [List.length_map]; show 0 + _ < _; omega)
 refine ⟨r, ?_, ?_, ?_⟩
 · refine Ev.congr (f := fun k => impl_labelBytes.l0 k (⟨#[]⟩ : ByteArray) ((labelsL s.data.toList).map mkB) (((labelsL s.data.toList).map mkB).length : Int) 0) (fun k => ?_) h1
   unfold impl_labelBytes.f
   rw [labelsOf_eq s (by omega)]
   rfl
 · refine Ev.congr (f := fun k => (spec_l1Labels.f k s).bind fun bt137 => (spec_l2Bytes.l0 k (⟨#[]⟩ : ByteArray) bt137.1 (bt137.1.length : Int) 0)) (fun k => rfl) (Ev.bind e1 ?_)
   rw [e3]
   exact h2
 · rw [h3, List.drop_zero, List.map_map]
   have e : ((fun p : ByteArray => 1 + p.size) ∘ mkB) = fun p => 1 + p.length := by funext p; show 1 + (mkB p).size = _; rw [mkB_size]
   rw [e]
   unfold labelsL
   by_cases h0 : s.data.toList = []
   · rw [if_pos h0, if_pos (by rw [hss, h0]; rfl)]; rfl
   · rw [if_neg h0, if_neg (by rw [hss]; have := List.length_pos_iff.2 h0; omega), split_sum, ← hss]
     show 0 + (s.size + 1) = _
     omega
theorem swap_ends (p m q : List ByteArray) (a b : ByteArray) : ((p ++ (a :: (m ++ [b])) ++ q).set p.length b).set (p.length + m.length + 1) a = (p ++ [b]) ++ m ++ (a :: q) := by
 have h1 : (p ++ (a :: (m ++ [b])) ++ q).set p.length b = p ++ b :: (m ++ b :: q) := by simp [List.set_append]
 have h2 : (p ++ b :: (m ++ b :: q)) = (p ++ b :: m) ++ b :: q := by simp
 have h3 : p.length + m.length + 1 = (p ++ b :: m).length := by simp; omega
 rw [h1, h2, h3, List.set_append_right _ _ (Nat.le_refl _), Nat.sub_self]
 simp
theorem get_first (p m q : List ByteArray) (a b : ByteArray) : rdOf ByteArray.empty (p ++ (a :: (m ++ [b])) ++ q) (p.length : Int) = a := by
 unfold rdOf
 simp [List.getD_eq_getElem?_getD]
theorem get_last (p m q : List ByteArray) (a b : ByteArray) : rdOf ByteArray.empty (p ++ (a :: (m ++ [b])) ++ q) ((p.length + m.length + 1 : Nat) : Int) = b := by
 have h2 : p ++ (a :: (m ++ [b])) ++ q = (p ++ a :: m) ++ b :: q := by simp
 have h3 : p.length + m.length + 1 = (p ++ a :: m).length := by simp; omega
 unfold rdOf
 rw [Int.toNat_natCast, h2, h3]
 simp [List.getD_eq_getElem?_getD]
theorem reverse_loop : ∀ (n : Nat) (p m q : List ByteArray), m.length ≤ n → p.length + m.length + q.length < 1099511627776 →
 Ev (fun k => slices_Reverse_string_string.l0 k (p ++ m ++ q) (p.length : Int) ((p.length : Int) + (m.length : Int) - 1)) (p ++ m.reverse ++ q)
 | n, p, [], q, hn, hb => by
  refine Ev.step (f := fun _ => some _) (fun k => ?_) (Ev.now _)
  show slices_Reverse_string_string.l0 (k + 1) (p ++ [] ++ q) (p.length : Int) ((p.length : Int) + (0 : Int) - 1) = _
  unfold slices_Reverse_string_string.l0
  rw [if_neg (by omega)]
  rfl
 | n, p, a :: t, q, hn, hb => by
  rcases List.eq_nil_or_concat t with rfl | ⟨m, b, rfl⟩
  · refine Ev.step (f := fun _ => some _) (fun k => ?_) (Ev.now _)
    show slices_Reverse_string_string.l0 (k + 1) (p ++ [a] ++ q) (p.length : Int) ((p.length : Int) + (1 : Int) - 1) = _
    unfold slices_Reverse_string_string.l0
    rw [if_neg (by omega)]
    rfl
  · rw [List.concat_eq_append] at hn hb ⊢
    have hl : (a :: (m ++ [b])).length = m.length + 2 := by simp
    rw [hl] at hn hb ⊢
    match n, hn with
    | n + 1, hn =>
     have ih := reverse_loop n (p ++ [b]) m (a :: q) (by omega) (by simp; omega)
     have e : p ++ (a :: (m ++ [b])).reverse ++ q = (p ++ [b]) ++ m.reverse ++ (a :: q) := by simp
     rw [e]
     refine Ev.step (fun k => ?_) ih
     show slices_Reverse_string_string.l0 (k + 1) (p ++ (a :: (m ++ [b])) ++ q) (p.length : Int) ((p.length : Int) + ((m.length + 2 : Nat) : Int) - 1) = _
     have hj : (p.length : Int) + ((m.length + 2 : Nat) : Int) - 1 = ((p.length + m.length + 1 : Nat) : Int) := by omega
     have hlen : (p ++ (a :: (m ++ [b])) ++ q).length = p.length + m.length + 2 + q.length := by simp; omega
     rw [hj]
     conv => lhs; unfold slices_Reverse_string_string.l0
     rw [hlen, if_pos (by omega), if_pos (by omega), if_pos (by omega), if_pos (by omega), if_pos (by omega), get_first, get_last, Int.toNat_natCast, Int.toNat_natCast, swap_ends]
     rw [w64n (by omega), show wrap64 (((p.length + m.length + 1 : Nat) : Int) - 1) = ((p.length + m.length : Nat) : Int) by unfold wrap64; omega]
     have e1 : (p ++ [b]).length = p.length + 1 := by simp
     rw [e1]
     congr 1
     omega
theorem reverse_ev (l : List ByteArray) (h : l.length < 1099511627776) : Ev (fun k => slices_Reverse_string_string.f k l) l.reverse := by
 have := reverse_loop l.length [] l [] (Nat.le_refl _) (by simpa using h)
 simp only [List.nil_append, List.append_nil, List.length_nil] at this
 refine Ev.congr (fun k => ?_) this
 unfold slices_Reverse_string_string.f
 congr 1
 unfold wrap64
 show _ = (0 : Int) + (l.length : Int) - 1
 omega
def cmpP (a b : ByteArray) : Int := if Op.bytesLess a.toList b.toList = true then -1 else (if Op.bytesLess b.toList a.toList = true then 1 else 0)
def cmpL : List ByteArray → List ByteArray → Int
 | [], [] => 0
 | [], _ :: _ => -1
 | _ :: _, [] => 1
 | a :: x, b :: y => if cmpP a b = 0 then cmpL x y else cmpP a b
theorem cmp_eq (a b : ByteArray) : cmp_Compare_string.f a b = some (cmpP a b) := by
 unfold cmp_Compare_string.f cmp_isNaN_string.f cmpP
 simp only [bne_self_eq_false, Option.bind_some]
 rw [if_neg (by simp), if_neg (by simp)]
 split
 · rfl
 · split <;> rfl
theorem rd_at (l : List ByteArray) (i : Nat) (h : i < l.length) : rdOf ByteArray.empty l (i : Int) = l[i] := by
 unfold rdOf
 rw [Int.toNat_natCast, List.getD_eq_getElem?_getD, List.getElem?_eq_getElem h]
 rfl
theorem compare_loop (x y : List ByteArray) (hx : x.length < 1099511627776) (hy : y.length < 1099511627776) : ∀ (m i : Nat), i + m = x.length → i ≤ y.length →
 Ev (fun k => slices_Compare_string_string.l0 k x y x (x.length : Int) (i : Int)) (cmpL (x.drop i) (y.drop i))
 | 0, i, h, hiy => by
  refine Ev.step (f := fun _ => some _) (fun k => ?_) (Ev.now _)
  show slices_Compare_string_string.l0 (k + 1) x y x (x.length : Int) (i : Int) = _
  unfold slices_Compare_string_string.l0
  rw [if_neg (by omega), List.drop_of_length_le (by omega)]
  by_cases hl : (x.length : Int) < (y.length : Int)
  · rw [if_pos hl, List.drop_eq_getElem_cons (show i < y.length by omega)]
    rfl
  · rw [if_neg hl, List.drop_of_length_le (by omega)]
    rfl
 | m + 1, i, h, hiy => by
  by_cases hl : (i : Int) ≥ (y.length : Int)
  · refine Ev.step (f := fun _ => some _) (fun k => ?_) (Ev.now _)
    show slices_Compare_string_string.l0 (k + 1) x y x (x.length : Int) (i : Int) = _
    unfold slices_Compare_string_string.l0
    rw [if_pos (by omega), if_pos (by omega), if_pos (by omega), if_pos hl, List.drop_of_length_le (show y.length ≤ i by omega), List.drop_eq_getElem_cons (show i < x.length by omega)]
    rfl
  · have ih := compare_loop x y hx hy m (i + 1) (by omega) (by omega)
    have hc : cmpL (x.drop i) (y.drop i) = if cmpP x[i] y[i] = 0 then cmpL (x.drop (i + 1)) (y.drop (i + 1)) else cmpP x[i] y[i] := by
     rw [List.drop_eq_getElem_cons (show i < x.length by omega), List.drop_eq_getElem_cons (show i < y.length by omega)]
     rfl
    refine Ev.step (f := fun k => if cmpP x[i] y[i] = 0 then slices_Compare_string_string.l0 k x y x (x.length : Int) ((i + 1 : Nat) : Int) else some (cmpP x[i] y[i])) (fun k => ?_) ?_
    · show slices_Compare_string_string.l0 (k + 1) x y x (x.length : Int) (i : Int) = _
      conv => lhs; unfold slices_Compare_string_string.l0
      rw [if_pos (by omega), if_pos (by omega), if_pos (by omega), if_neg hl, if_pos (by omega), rd_at x i (by omega), rd_at y i (by omega), cmp_eq, w64n (by omega)]
      rfl
    · rw [hc]
      by_cases h0 : cmpP x[i] y[i] = 0
      · simp only [if_pos h0]; exact ih
      · simp only [if_neg h0]; exact Ev.now _
theorem compare_ev (x y : List ByteArray) (hx : x.length < 1099511627776) (hy : y.length < 1099511627776) : Ev (fun k => slices_Compare_string_string.f k x y) (cmpL x y) := by
 have := compare_loop x y hx hy x.length 0 (by omega) (by omega)
 exact this
theorem speccomp_loop (x y : List ByteArray) (hx : x.length < 1099511627776) (hy : y.length < 1099511627776) : ∀ (m i : Nat), i + m = x.length → i ≤ y.length →
 Ev (fun k => spec_l1Compare.l0 k x y ((i + 1 : Nat) : Int)) (cmpL (x.reverse.drop i) (y.reverse.drop i))
 | m, i, h, hiy => by
  have hj : ∀ k, spec_l1Compare.l0 (k + 1) x y ((i + 1 : Nat) : Int) = spec_l1Compare.j1 k x y ((i + 1 : Nat) : Int) (decide (i + 1 ≤ x.length ∧ i + 1 ≤ y.length)) := by
   intro k
   conv => lhs; unfold spec_l1Compare.l0
   by_cases hl : ((i + 1 : Nat) : Int) ≤ (x.length : Int)
   · rw [if_pos hl]
     congr 1
     rw [decide_eq_decide]; omega
   · rw [if_neg hl]
     congr 1
     rw [eq_comm, decide_eq_false_iff_not]; omega
  refine Ev.step hj ?_
  by_cases hd : i + 1 ≤ x.length ∧ i + 1 ≤ y.length
  · obtain ⟨m, rfl⟩ : ∃ m', m = m' + 1 := ⟨m - 1, by omega⟩
    have hrx : i < x.reverse.length := by rw [List.length_reverse]; omega
    have hry : i < y.reverse.length := by rw [List.length_reverse]; omega
    have ih := speccomp_loop x y hx hy m (i + 1) (by omega) (by omega)
    have hwx : wrap64 ((x.length : Int) - ((i + 1 : Nat) : Int)) = ((x.length - 1 - i : Nat) : Int) := by unfold wrap64; omega
    have hwy : wrap64 ((y.length : Int) - ((i + 1 : Nat) : Int)) = ((y.length - 1 - i : Nat) : Int) := by unfold wrap64; omega
    have gx : rdOf ByteArray.empty x ((x.length - 1 - i : Nat) : Int) = x.reverse[i] := by rw [rd_at _ _ (by omega), List.getElem_reverse]
    have gy : rdOf ByteArray.empty y ((y.length - 1 - i : Nat) : Int) = y.reverse[i] := by rw [rd_at _ _ (by omega), List.getElem_reverse]
    have hc : cmpL (x.reverse.drop i) (y.reverse.drop i) = if cmpP x.reverse[i] y.reverse[i] = 0 then cmpL (x.reverse.drop (i + 1)) (y.reverse.drop (i + 1)) else cmpP x.reverse[i] y.reverse[i] := by
     rw [List.drop_eq_getElem_cons hrx, List.drop_eq_getElem_cons hry]
     rfl
    refine Ev.step (f := fun k => if cmpP x.reverse[i] y.reverse[i] = 0 then spec_l1Compare.l0 k x y ((i + 1 + 1 : Nat) : Int) else some (cmpP x.reverse[i] y.reverse[i])) (fun k => ?_) ?_
    · rw [decide_eq_true hd]
      conv => lhs; unfold spec_l1Compare.j1
      rw [if_pos rfl, hwx, hwy, if_pos (by omega), if_pos (by omega), if_pos (by omega), if_pos (by omega), gx, gy, w64n (by omega)]
      unfold cmpP
      by_cases h1 : Op.bytesLess x.reverse[i].toList y.reverse[i].toList = true
      · rw [if_pos h1, if_pos h1]; rfl
      · rw [if_neg h1, if_neg h1]
        by_cases h2 : Op.bytesLess y.reverse[i].toList x.reverse[i].toList = true
        · rw [if_pos h2, if_pos h2]; rfl
        · rw [if_neg h2, if_neg h2]; rfl
    · rw [hc]
      by_cases h0 : cmpP x.reverse[i] y.reverse[i] = 0
      · simp only [if_pos h0]; exact ih
      · simp only [if_neg h0]; exact Ev.now _
  · refine Ev.step (f := fun _ => some _) (fun k => ?_) (Ev.now _)
    rw [decide_eq_false hd]
    conv => lhs; unfold spec_l1Compare.j1
    rw [if_neg (by simp)]
    have hcase : ∀ (p q : List ByteArray), (p = [] ∨ q = []) → cmpL p q = if p.length < q.length then -1 else if p.length > q.length then 1 else 0 := by
     intro p q hpq
     cases p <;> cases q <;> first | rfl | (simp at hpq)| (simp [cmpL])
    rw [hcase _ _ (by
     by_cases h1 : i + 1 ≤ x.length
     · right; apply List.drop_of_length_le; rw [List.length_reverse]; omega
     · left; apply List.drop_of_length_le; rw [List.length_reverse]; omega)]
    simp only [List.length_drop, List.length_reverse]
    by_cases h1 : (x.length : Int) < (y.length : Int)
    · rw [if_pos h1, if_pos (by omega)]
    · by_cases h2 : (x.length : Int) > (y.length : Int)
      · rw [if_neg h1, if_pos h2, if_neg (by omega), if_pos (by omega)]
      · rw [if_neg h1, if_neg h2, if_neg (by omega), if_neg (by omega)]
 termination_by m => m
def ordL (a b : List UInt8) : Int := cmpL ((labelsL a).map mkB).reverse ((labelsL b).map mkB).reverse
theorem labs_len (s : ByteArray) (hs : s.size ≤ 1048576) : ((labelsL s.data.toList).map mkB).length ≤ 1048577 := by
 rw [List.length_map]
 unfold labelsL
 split
 · simp
 · have := splitL_len 46 s.data.toList; rw [← size_len] at this; omega
theorem implComp_ev (a b : ByteArray) (ha : a.size ≤ 1048576) (hb : b.size ≤ 1048576) : Ev (fun k => impl_compareNames.f k a b) (ordL a.data.toList b.data.toList) := by
 have h1 := labs_len a ha
 have h2 := labs_len b hb
 refine Ev.congr (f := fun k => (slices_Reverse_string_string.f k ((labelsL a.data.toList).map mkB)).bind fun t151 => (slices_Reverse_string_string.f k ((labelsL b.data.toList).map mkB)).bind fun t152 => (slices_Compare_string_string.f k t151 t152).bind fun t153 => some t153) (fun k => ?_) ?_
 · unfold impl_compareNames.f
   rw [labelsOf_eq a (by omega), labelsOf_eq b (by omega)]
   rfl
 · refine Ev.bind (reverse_ev _ (by omega)) (Ev.bind (reverse_ev _ (by omega)) (Ev.bind (compare_ev _ _ ?_ ?_) (Ev.now _)))
   · rw [List.length_reverse]; omega
   · rw [List.length_reverse]; omega
theorem specComp_ev (a b : ByteArray) (ha : a.size ≤ 1048576) (hb : b.size ≤ 1048576) (ga : goodL a.data.toList = true) (gb : goodL b.data.toList = true) : Ev (fun k => spec_l1Compare.f k a b) (ordL a.data.toList b.data.toList) := by
 obtain ⟨r1, e1, e2, e3⟩ := labels_ev a (by omega)
 obtain ⟨r2, f1, f2, f3⟩ := labels_ev b (by omega)
 have h1 := labs_len a ha
 have h2 := labs_len b hb
 refine Ev.congr (fun k => rfl) (Ev.bind e1 (Ev.bind f1 ?_))
 rw [e3 (e2.trans ga), f3 (f2.trans gb)]
 exact speccomp_loop _ _ (by omega) (by omega) _ 0 (Nat.zero_add _) (by omega)
theorem num_one (n : Int) (h0 : 0 ≤ n) (h9 : n < 10) : strOfNums [(wrap64 (48 + n)) % 256] = mkB [UInt8.ofNat (48 + n.toNat)] := by
 have e : wrap64 (48 + n) % 256 = ((48 + n.toNat : Nat) : Int) := by unfold wrap64; omega
 rw [e]
 show strOfNums [((48 + n.toNat : Nat) : Int)] = mkB [UInt8.ofNat (((48 + n.toNat : Nat) : Int).toNat)]
 rfl
theorem mkB_app (p q : List UInt8) : mkB p ++ mkB q = mkB (p ++ q) := by
 apply ByteArray.ext
 simp [mkB, ByteArray.append]
theorem digits_len (u : Nat) (h : u < 9223372036854775807) : (Lib.decDigits u).length ≤ 21 := by
 have := Lib.itoa_length_le (u : Int) (by omega) (by omega)
 rwa [Lib.itoa_nonneg] at this
theorem num_ev : ∀ (n u : Nat), u ≤ n → u < 9223372036854775807 → Ev (fun k => spec_l1Num.f k (u : Int)) (mkB (Lib.decDigits u))
 | n, u, hn, hu => by
  by_cases h10 : u < 10
  · refine Ev.step (f := fun _ => some (mkB (Lib.decDigits u))) (fun k => ?_) (Ev.now _)
    show spec_l1Num.f (k + 1) (u : Int) = _
    unfold spec_l1Num.f
    rw [if_pos (by omega), num_one _ (by omega) (by omega), Lib.decDigits_one h10, Int.toNat_natCast]
  · cases n with
    | zero => omega
    | succ n =>
     have ih := num_ev n (u / 10) (by omega) (by omega)
     have hlen := digits_len (u / 10) (by omega)
     have e1 : wrap64 (Int.tdiv (u : Int) 10) = ((u / 10 : Nat) : Int) := by
      rw [Int.tdiv_eq_ediv_of_nonneg (by omega), show (u : Int) / 10 = ((u / 10 : Nat) : Int) by omega]
      unfold wrap64; omega
     have e2 : Int.tmod (u : Int) 10 = ((u % 10 : Nat) : Int) := by
      rw [Int.tmod_eq_emod_of_nonneg (by omega)]
      omega
     rw [← e1] at ih
     refine Ev.step (f := fun k => (spec_l1Num.f k (wrap64 (Int.tdiv u 10))).bind fun t285 => ((some (([(wrap64 (48 + (Int.tmod u 10))) % 256] : List Int) : List Int)).bind fun y286 => (if t285.size + (strOfNums y286).size ≤ 9223372036854775807 then (some (t285 ++ (strOfNums y286))) else (none)))) (fun k => ?_) (Ev.bind ih ?_)
     · show spec_l1Num.f (k + 1) (u : Int) = _
       rw [spec_l1Num.f, if_neg (by omega)]
     · simp only [Option.bind_some]
       rw [e2, num_one _ (by omega) (by omega), Int.toNat_natCast, mkB_size, mkB_size]
       simp only [if_pos (show (Lib.decDigits (u / 10)).length + [UInt8.ofNat (48 + u % 10)].length ≤ 9223372036854775807 by simp only [List.length_cons, List.length_nil]; omega)]
       rw [mkB_app, show Lib.decDigits (u / 10) ++ [UInt8.ofNat (48 + u % 10)] = Lib.decDigits u by rw [Lib.decDigits.eq_1 u, dif_neg h10]]
       exact Ev.now _
def itB (n : Int) : ByteArray := mkB (Lib.decDigits n.toNat)
theorem itB_size (n : Int) (h0 : 0 ≤ n) (h1 : n < 9223372036854775807) : (itB n).size ≤ 21 := by
 unfold itB
 rw [mkB_size]
 exact digits_len _ (by omega)
theorem num_it (n : Int) (h0 : 0 ≤ n) (h1 : n < 9223372036854775807) : Ev (fun k => spec_l1Num.f k n) (itB n) := by
 have := num_ev n.toNat n.toNat (Nat.le_refl _) (by omega)
 rwa [show ((n.toNat : Nat) : Int) = n by omega] at this
theorem itoa_it (n : Int) (h0 : 0 ≤ n) (h1 : n < 9223372036854775807) : strconv_Itoa.f n = some (itB n) := by
 unfold strconv_Itoa.f itB Lib.itoa
 rw [if_pos (by omega), if_neg (by omega)]
 rfl
end Go.Proofs.YtiegkjimpclmaaaGreatDoor.Pure
namespace Go.Proofs.YtiegkjimpclmaaaGreatDoor.P
attribute [local go_sem] max2_int min2_int max_two min_two max_three min_three max_four min_four
def impl_compareRecords.f (k : Nat) (a0_0 : ByteArray) (a0_1 : Int) (a0_2 : Int) (a0_3 : ByteArray) (a1_0 : ByteArray) (a1_1 : Int) (a1_2 : Int) (a1_3 : ByteArray) : Option (Int) := (impl_compareKeys.f k a0_0 a0_1 a0_2 a0_3 a1_0 a1_1 a1_2 a1_3).bind fun t406 => ((impl_dataBytes.f k a0_1 a0_3).bind fun t407 => ((impl_dataBytes.f k a1_1 a1_3).bind fun t408 => ((strings_Compare.f t407 t408).bind fun t409 => ((cmp_Compare_int.f a0_2 a1_2).bind fun t410 => ((cmp_Or_int.f k (([t406, t409, t410] : List Int))).bind fun t414 => (some t414))))))
def impl_compareRecords.T1 : Bool × List (List Nat × List Nat) := (true, [([], []), ([], []), ([0, 1], [0, 1]), ([], []), ([3], [3]), ([], []), ([5], [5]), ([4, 6, 2], [4, 6]), ([], []), ([8], [8]), ([], []), ([10], [10]), ([9, 11, 7], [9, 11]), ([7, 12, 12], [7, 12]), ([], []), ([14], [14]), ([], []), ([16], [16]), ([15, 17, 13], [15, 17]), ([2, 13, 18], [2, 13, 18]), ([19, 18], [19]), ([20, 20, 0, 1, 2, 3, 4, 5, 6, 7, 8, 9, 10, 11, 12, 13, 14, 15, 16, 17, 18, 19, 20], [20])])
def impl_compareRecords.B1 : List Nat := [0, 0, 3, 0, 8, 0, 32, 127, 0, 256, 0, 1024, 4095, 8191, 0, 16384, 0, 65536, 262143, 524287, 1048575, 2097151]
theorem impl_compareRecords.tab1 : rtab .any (opsOf Tryz.f77 1) = impl_compareRecords.T1 := by kernel_rfl
theorem impl_compareRecords.bits1 : waitsOk impl_compareRecords.T1.2 impl_compareRecords.B1 = true := by kernel_rfl
theorem impl_compareRecords.calls (k : Nat) (a0_0 : ByteArray) (a0_1 : Int) (a0_2 : Int) (a0_3 : ByteArray) (a1_0 : ByteArray) (a1_1 : Int) (a1_2 : Int) (a1_3 : ByteArray) (r : Int) (w : World) (h : impl_compareRecords.f k a0_0 a0_1 a0_2 a0_3 a1_0 a1_1 a1_2 a1_3 = some r) (hv_ : Vars w := by exact vv_) :
 Calls Tryz.prog 77 #[.agg #[.string a0_0, .int .i64 a0_1, .int .i64 a0_2, .string a0_3], .agg #[.string a1_0, .int .i64 a1_1, .int .i64 a1_2, .string a1_3]] w fun e w' => e = .returned (.int .i64 r) ∧ Below w.heap.size w w' := by
 have HV_ := a0_ hv_
 clear hv_
 have hu45 := Tryz.underlying45
 have HB := a0_ (Below.refl w.heap.size w)
 have H := h
 clear h
 unfold impl_compareRecords.f at H
 obtain ⟨t406, A3, H⟩ := ob_ H
 obtain ⟨t407, A4, H⟩ := ob_ H
 obtain ⟨t408, A5, H⟩ := ob_ H
 obtain ⟨t409, A6, H⟩ := ob_ H
 obtain ⟨t410, A7, H⟩ := ob_ H
 obtain ⟨y411, hy411⟩ : ∃ y_ : List Int, y_ = (([t406, t409, t410] : List Int)) := ⟨_, rfl⟩
 rw [← hy411] at H
 have Ny411 := a0_ hy411
 clear hy411
 obtain ⟨t414, A8, H⟩ := ob_ H
 obtain rfl := Option.some.inj H
 go_enter Tryz.func77, Tryz.ntmps77
 try go_wp2_with (first | ((with_reducible refine gate_dst (N := 2) rfl ?_); refine boxS_ 2 #[.string a0_0, .int .i64 a0_1, .int .i64 a0_2, .string a0_3] 45 (fun gb404 hg w9 hbox hb => ?_); have BK404 := a0_ (hbox); have GW404 := a0_ (gw_ hg : w.heap.size ≤ gb404); replace HB := a0_ (below_step bq0_ hb); have GE404 := GW404; clear hb hbox hg) | ((with_reducible refine gate_dst (N := 3) rfl ?_); refine boxS_ 3 #[.string a1_0, .int .i64 a1_1, .int .i64 a1_2, .string a1_3] 45 (fun gb405 hg w10 hbox hb => ?_); have BK405 := a0_ (hbox); have GW405 := a0_ (gw_ hg (below_size bq1_) : w.heap.size ≤ gb405); replace HB := a0_ (below_step bq1_ hb); have NB404_405 := a0_ ((by rw [hg]; exact Nat.ne_of_lt (blk_lt (g := gb404) (o := .cells #[.string a0_0, .int .i64 a0_1, .int .i64 a0_2, .string a0_3] 45 (0, 0)) (kB_ BK404.out)) : gb404 ≠ gb405)); have NB405_404 := a0_ ((by rw [hg]; exact Nat.ne_of_gt (blk_lt (g := gb404) (o := .cells #[.string a0_0, .int .i64 a0_1, .int .i64 a0_2, .string a0_3] 45 (0, 0)) (kB_ BK404.out)) : gb405 ≠ gb404)); replace BK404 := a0_ (bkB_ BK404 hb); have GE405 := GW405; clear hb hbox hg))
 replace BK404 := a0_ (blk_drew BK404.out)
 replace BK405 := a0_ (blk_drew BK405.out)
 replace HB := a0_ (below_drew1 HB.out)
 refine stH_ 22 [] (cb_ BK404.out (eb_ BK405.out)) (fun hHeld => ?_); refine with_tabW impl_compareRecords.tab1 impl_compareRecords.bits1 (fun HT_ HW_ => ?_)
 generalize w10.drew = w11 at BK404 BK405 HB hHeld ⊢
 refine p_ 3 8 ?_
 refine p_ 5 10 ?_
 refine p_ 8 13 ?_
 refine p_ 10 15 ?_
 refine p_ 14 19 ?_
 refine p_ 16 21 ?_
 refine t_ 0 5 ?_
 refine t_ 1 6 ?_
 refine t_ 4 9 ?_
 refine t_ 6 11 ?_
 refine t_ 9 14 ?_
 refine t_ 11 16 ?_
 refine t_ 15 20 ?_
 refine t_ 17 22 ?_
 refine oneS_ 2 (some 7) (fun K hK => ?_)
 refine goes_ Tryz.func65 (by kernel_rfl) rfl #[.agg #[.string a0_0, .int .i64 a0_1, .int .i64 a0_2, .string a0_3], .agg #[.string a1_0, .int .i64 a1_1, .int .i64 a1_2, .string a1_3]] (by rfl) rfl rfl argsS_ ?_
 with_reducible refine (impl_compareKeys.calls k a0_0 a0_1 a0_2 a0_3 a1_0 a1_1 a1_2 a1_3 t406 _ A3.out).mono ?_
 rintro e w12 ⟨rfl, hb⟩
 refine ⟨_, rfl, ?_⟩
 replace BK404 := a0_ (bkB_ BK404 hb)
 replace BK405 := a0_ (bkB_ BK405 hb)
 replace HB := a0_ (below_step bq1_ hb)
 (try clear hb)
 (try clear hb2)
 (try clear hk)
 (try clear hi)
 refine hK.out _ _ (cb_ BK404.out (eb_ BK405.out)).out (fun hHeld => ?_)
 clear hK K
 refine normS_ ?_
 refine oneS_ 7 (some 12) (fun K hK => ?_)
 refine goes_ Tryz.func141 (by kernel_rfl) rfl #[.int .i64 a0_1, .string a0_3] (by rfl) rfl rfl argsS_ ?_
 with_reducible refine (impl_dataBytes.calls k a0_1 a0_3 t407 _ A4.out).mono ?_
 rintro e w13 ⟨rfl, hb⟩
 refine ⟨_, rfl, ?_⟩
 replace BK404 := a0_ (bkB_ BK404 hb)
 replace BK405 := a0_ (bkB_ BK405 hb)
 replace HB := a0_ (below_step bq1_ hb)
 (try clear hb)
 (try clear hb2)
 (try clear hk)
 (try clear hi)
 refine hK.out _ _ (cb_ BK404.out (eb_ BK405.out)).out (fun hHeld => ?_)
 clear hK K
 refine normS_ ?_
 refine oneS_ 12 (some 17) (fun K hK => ?_)
 refine goes_ Tryz.func141 (by kernel_rfl) rfl #[.int .i64 a1_1, .string a1_3] (by rfl) rfl rfl argsS_ ?_
 with_reducible refine (impl_dataBytes.calls k a1_1 a1_3 t408 _ A5.out).mono ?_
 rintro e w14 ⟨rfl, hb⟩
 refine ⟨_, rfl, ?_⟩
 replace BK404 := a0_ (bkB_ BK404 hb)
 replace BK405 := a0_ (bkB_ BK405 hb)
 replace HB := a0_ (below_step bq1_ hb)
 (try clear hb)
 (try clear hb2)
 (try clear hk)
 (try clear hi)
 refine hK.out _ _ (cb_ BK404.out (eb_ BK405.out)).out (fun hHeld => ?_)
 clear hK K
 refine normS_ ?_
 refine oneS_ 13 (some 18) (fun K hK => ?_)
 refine goes_ Tryz.func140 (by kernel_rfl) rfl #[.string t407, .string t408] (by rfl) rfl rfl argsS_ ?_
 with_reducible refine (strings_Compare.calls t407 t408 t409 _ A6.out).mono ?_
 rintro e w' ⟨rfl, ⟨nd, rfl⟩⟩
 refine ⟨_, rfl, ?_⟩
 refine hK.out _ _ (cb_ BK404.out (eb_ BK405.out)).out (fun hHeld => ?_)
 clear hK K
 refine normS_ ?_
 refine oneS_ 18 (some 23) (fun K hK => ?_)
 refine goes_ Tryz.func133 (by kernel_rfl) rfl #[.int .i64 a0_2, .int .i64 a1_2] (by rfl) rfl rfl argsS_ ?_
 with_reducible refine (cmp_Compare_int.calls a0_2 a1_2 t410 _ A7.out).mono ?_
 rintro e w' ⟨rfl, ⟨nd, rfl⟩⟩
 refine ⟨_, rfl, ?_⟩
 refine hK.out _ _ (cb_ BK404.out (eb_ BK405.out)).out (fun hHeld => ?_)
 clear hK K
 refine normS_ ?_
 refine oneS_ 19 (some 24) (fun K hK => ?_)
 refine Kd.R_lit_step (Kd.int .i64) _ 3 ?hg (N := 24) ?hd (xs := ([t406, t409, t410] : List Int)) (inner := [.int .i64 t406, .int .i64 t409, .int .i64 t410]) (ok := fun _ => True) (okp := fun _ => True) ?hr ?hp (fun _ hk => hk) trivial (Below.refl _ _) (Nat.le_refl _) (by simp) ?_; (case hd => rfl); (case hg => rfl); (case hr => first | (go_simp; done) | (go_simp; rfl)); (case hp => exact (Reps.one (show Kd.M (Kd.int .i64) _ _ _ t406 [.int .i64 t406] from rfl) (Reps.one (show Kd.M (Kd.int .i64) _ _ _ t409 [.int .i64 t409] from rfl) (Reps.one (show Kd.M (Kd.int .i64) _ _ _ t410 [.int .i64 t410] from rfl) (Reps.none _ _)))))
 intro v412 w15 ho16 hb hg_ hnew_
 clear hg_ hnew_
 (first | rw [← Ny411.out] at ho16 | (simp only [Int.reduceToNat] at ho16; rw [← Ny411.out] at ho16))
 have HO413 := a0_ (Kd.R_lower ho16 (below_size bq1_))
 replace BK404 := a0_ (bkB_ BK404 hb)
 replace BK405 := a0_ (bkB_ BK405 hb)
 replace HB := a0_ (below_step bq1_ hb)
 clear hb ho16
 obtain ⟨Ao17, co17, eo17⟩ := Kd.R_slice HO413.out
 (first | subst eo17 | (injection eo17 with f1_ f2_ f3_; have f4_ := f1_.symm; have f5_ := f3_.symm; clear f1_ f2_ f3_; subst f4_; subst f5_))
 refine hK.out _ _ (cb_ BK404.out (eb_ BK405.out)).out (fun hHeld => ?_)
 clear hK K
 refine normS_ ?_
 refine oneS_ 20 (some 25) (fun K hK => ?_)
 refine goes_ Tryz.func131 (by kernel_rfl) rfl #[.slice Ao17 y411.length co17] (by rfl) rfl rfl argsS_ ?_
 with_reducible refine (cmp_Or_int.calls k _ _ y411 t414 _ ?side1 ?side2 A8.out).mono ?_
 (case side1 => exact kD_ (Kd.R_reads' HO413.out).2.2)
 (case side2 => exact (Kd.R_reads' HO413.out).2.1)
 rintro e w' ⟨rfl, ⟨nd, rfl⟩⟩
 refine ⟨_, rfl, ?_⟩
 refine hK.out _ _ (cb_ BK404.out (eb_ BK405.out)).out (fun hHeld => ?_)
 clear hK K
 refine normS_ ?_
 refine p_ 21 4 ?_
 refine done_ (done_of HT_.out (by kernel_rfl)) ?_
 try go_wp2
 go_ret
 exact ⟨rr_, bq1_⟩
def spec_SetsOf.l0 : Nat → List (S45) → List (S45) → List (S45) → Int → Int → Option ((List (S83)) × Bool)
 | 0, _, _, _, _, _ => none
 | k + 1, x0, x4, x9, x10, x11 => if x11 < x10 then (if 0 ≤ x11 then (if x11 < (x9.length : Int) then ((spec_GoodRecord.f k ((rd_T45 x9 x11).f0) ((rd_T45 x9 x11).f1) ((rd_T45 x9 x11).f2) ((rd_T45 x9 x11).f3)).bind fun t519 => (if t519 = true then ((spec_l3Put.f k x4 ((rd_T45 x9 x11).f0) ((rd_T45 x9 x11).f1) ((rd_T45 x9 x11).f2) ((rd_T45 x9 x11).f3)).bind fun t520 => (spec_SetsOf.l0 k x0 t520 x9 x10 (wrap64 (x11 + 1)))) else (some (([] : List (S83)), false)))) else (none)) else (none)) else ((spec_l3Sets.f k x4).bind fun bt513 => (if bt513.2 = true then (if (x0.length : Int) > 60 then (some (([] : List (S83)), false)) else (some (bt513.1, true))) else (some (([] : List (S83)), false))))
def spec_SetsOf.f (k : Nat) (l0 : List (S45)) : Option ((List (S83)) × Bool) := spec_SetsOf.l0 k l0 ([] : List (S45)) l0 (l0.length : Int) 0
theorem spec_SetsOf.calls (k : Nat) (A0 : Option Addr) (c0 : Nat) (l0 : List (S45)) (r1 : List (S83)) (r2 : Bool) (w : World) (hr0 : Kd.C k45 w A0 l0.length l0) (hc0 : l0.length ≤ c0) (h : spec_SetsOf.f k l0 = some (r1, r2)) :
 Calls Tryz.prog 22 #[.slice A0 l0.length c0] w fun e w' => ∃ v0_ : Value, e = .returned (.tuple #[v0_, .bool r2]) ∧ Kd.S k83 83 w' w.heap.size (fun _ => True) v0_ r1 ∧ Below w.heap.size w w' := by
 have hu45 := Tryz.underlying45
 have HR0 := a0_ hr0
 have HC0 := a0_ hc0
 clear hr0 hc0
 have HB := a0_ (Below.refl w.heap.size w)
 have H := h
 clear h
 unfold spec_SetsOf.f at H
 have H' := a0_ H
 clear H
 go_enter Tryz.func22, Tryz.ntmps22
 go_wp2
 go_loopg [4, 11] k (fun kq v4 v11 w' => ∃ (x4_1 : List (S45)) (x11_1 : Int), v11 = .int .i64 x11_1 ∧ Aside0 (spec_SetsOf.l0 kq l0 x4_1 l0 (l0.length : Int) x11_1 = some (r1, r2)) ∧ Aside0 (kq ≤ k) ∧ Aside0 (Kd.R k45 45 w' w.heap.size (fun _ => True) v4 x4_1) ∧ Aside0 (Below w.heap.size w w'))
 case atStart => exact ⟨(([] : List (S45))), (0), rs_, H', ⟨Nat.le_refl _⟩, ⟨by first | exact Kd.R_nil _ _ _ _ _ | exact Kd.N_nil _ _ _ _ _ | exact Kd.V_nil _ _ _ _ _ | exact Kd.Q_nil _ _ _ _ _ | exact Kd.S_nil _ _ _ _ _⟩, ⟨bq0_⟩⟩
 case round =>
  clear H'
  obtain ⟨x4_1, x11_1, rfl, HA, HK1, HO_4, HB⟩ := hrel
  cases gk with
  | zero => exact absurd HA.out (by simp [spec_SetsOf.l0])
  | succ k1 =>
   have H := HA.out
   clear HA
   simp only [spec_SetsOf.l0] at H
   by_cases c2 : x11_1 < (l0.length : Int)
   case neg =>
    rw [if_neg c2] at H
    have c2b0 := decide_eq_false c2
    clear c2
    obtain ⟨⟨t513, t514⟩, A17, H⟩ := ob_ H
    by_cases c18 : t514 = true
    case neg =>
     replace c18 := Bool.eq_false_iff.mpr c18
     subst c18
     rw [if_neg ff_] at H
     simp only [Option.some.injEq, Prod.mk.injEq] at H
     obtain ⟨rfl, rfl⟩ := H
     obtain ⟨Ao24, co24, eo24⟩ := Kd.R_slice HO_4.out
     subst eo24
     go_wp2_with (first | ((with_reducible refine gt_ 63 rfl ?_); refine gs_ 24 Tryz.func63 #[.slice Ao24 x4_1.length co24] ?_; (with_reducible refine (spec_l3Sets.calls k1 _ _ x4_1 t513 false _ ?side1 ?side2 A17.out).mono ?_); (case side1 => exact kD_ (Kd.R_reads' HO_4.out).2.2); (case side2 => exact (Kd.R_reads' HO_4.out).2.1); rintro e w25 ⟨v515, rfl, ho0, hb⟩; refine ⟨_, rfl, ?_⟩; replace HO_4 := a0_ (Kd.R_below (kR_ HO_4.out) hb); have HO516 := a0_ (Kd.S_lower ho0 (below_size bq0_)); replace HB := a0_ (below_step bq0_ hb); clear hb; (try clear ho0)))
     go_ret2
     exact ⟨_, rr_, by first | exact Kd.S_nil _ _ _ _ _ | exact Kd.N_nil _ _ _ _ _ | exact Kd.V_nil _ _ _ _ _ | exact Kd.Q_nil _ _ _ _ _ | exact Kd.R_nil _ _ _ _ _, bq0_⟩
    subst c18
    rw [if_pos rfl] at H
    by_cases c19 : (l0.length : Int) > 60
    case neg =>
     rw [if_neg c19] at H
     have c19b0 := decide_eq_false c19
     have c19b1 : decide (60 < l0.length) = false := decide_eq_false (by omega)
     clear c19
     simp only [Option.some.injEq, Prod.mk.injEq] at H
     obtain ⟨rfl, rfl⟩ := H
     obtain ⟨Ao22, co22, eo22⟩ := Kd.R_slice HO_4.out
     subst eo22
     go_wp2_with (first | ((with_reducible refine gt_ 63 rfl ?_); refine gs_ 24 Tryz.func63 #[.slice Ao22 x4_1.length co22] ?_; (with_reducible refine (spec_l3Sets.calls k1 _ _ x4_1 t513 true _ ?side1 ?side2 A17.out).mono ?_); (case side1 => exact kD_ (Kd.R_reads' HO_4.out).2.2); (case side2 => exact (Kd.R_reads' HO_4.out).2.1); rintro e w23 ⟨v515, rfl, ho0, hb⟩; refine ⟨_, rfl, ?_⟩; replace HO_4 := a0_ (Kd.R_below (kR_ HO_4.out) hb); have HO516 := a0_ (Kd.S_lower ho0 (below_size bq0_)); replace HB := a0_ (below_step bq0_ hb); clear hb; (try clear ho0)))
     go_ret2
     exact ⟨_, rr_, kS_ HO516.out, bq0_⟩
    rw [if_pos c19] at H
    have c19b0 := decide_eq_true c19
    have c19b1 : decide (60 < l0.length) = true := decide_eq_true (by omega)
    clear c19
    simp only [Option.some.injEq, Prod.mk.injEq] at H
    obtain ⟨rfl, rfl⟩ := H
    obtain ⟨Ao20, co20, eo20⟩ := Kd.R_slice HO_4.out
    subst eo20
    go_wp2_with (first | ((with_reducible refine gt_ 63 rfl ?_); refine gs_ 24 Tryz.func63 #[.slice Ao20 x4_1.length co20] ?_; (with_reducible refine (spec_l3Sets.calls k1 _ _ x4_1 t513 true _ ?side1 ?side2 A17.out).mono ?_); (case side1 => exact kD_ (Kd.R_reads' HO_4.out).2.2); (case side2 => exact (Kd.R_reads' HO_4.out).2.1); rintro e w21 ⟨v515, rfl, ho0, hb⟩; refine ⟨_, rfl, ?_⟩; replace HO_4 := a0_ (Kd.R_below (kR_ HO_4.out) hb); have HO516 := a0_ (Kd.S_lower ho0 (below_size bq0_)); replace HB := a0_ (below_step bq0_ hb); clear hb; (try clear ho0)))
    go_ret2
    exact ⟨_, rr_, by first | exact Kd.S_nil _ _ _ _ _ | exact Kd.N_nil _ _ _ _ _ | exact Kd.V_nil _ _ _ _ _ | exact Kd.Q_nil _ _ _ _ _ | exact Kd.R_nil _ _ _ _ _, bq0_⟩
   rw [if_pos c2] at H
   have c2b0 := decide_eq_true c2
   clear c2
   by_cases c3 : 0 ≤ x11_1
   case neg =>
    rw [if_neg c3] at H
    exact absurd H (by simp)
   rw [if_pos c3] at H
   have c3b0 := decide_eq_true c3
   clear c3
   by_cases c4 : x11_1 < (l0.length : Int)
   case neg =>
    rw [if_neg c4] at H
    exact absurd H (by simp)
   rw [if_pos c4] at H
   have c4b0 := decide_eq_true c4
   clear c4
   obtain ⟨t519, A5, H⟩ := ob_ H
   by_cases c6 : t519 = true
   case neg =>
    replace c6 := Bool.eq_false_iff.mpr c6
    subst c6
    rw [if_neg ff_] at H
    simp only [Option.some.injEq, Prod.mk.injEq] at H
    obtain ⟨rfl, rfl⟩ := H
    have p517 := t0_ (x11_1)
    have q517 := tl_ (x11_1) (l0.length)
    obtain ⟨ad517, e517, -, -, -, -, hx517_0, hx517_1, hx517_2, hx517_3⟩ := rp_ HB (at_T45 HR0.out x11_1 (of_eq_true p517) (of_eq_true q517))
    cases e517
    go_wp2_with (first | ((with_reducible refine gate_dst (N := 6) rfl ?_); (try (refine gate_guard (by rfl) ?_; dsimp only)); refine boxS_ 6 #[.string (⟨#[]⟩ : ByteArray), .int .i64 0, .int .i64 0, .string (⟨#[]⟩ : ByteArray)] 45 (fun gb518 hg w14 hbox hb => ?_); replace HO_4 := a0_ (Kd.R_below (Kd.R_elderB (kR_ HO_4.out) gb518 (Nat.le_of_eq hg.symm)) hb); have BK518 := a0_ (hbox); have GW518 := a0_ (gw_ hg : w.heap.size ≤ gb518); replace HB := a0_ (below_step bq0_ hb); have GE518 := GW518; clear hb hbox hg; obtain ⟨_, _, _, _, _, _, _, _⟩ := bk4_ BK518.out) | ((with_reducible refine gt_ 61 rfl ?_); refine gs_ 16 Tryz.func61 #[.agg #[.string ((rd_T45 l0 x11_1).f0), .int .i64 ((rd_T45 l0 x11_1).f1), .int .i64 ((rd_T45 l0 x11_1).f2), .string ((rd_T45 l0 x11_1).f3)]] ?_; (with_reducible refine (spec_GoodRecord.calls k1 ((rd_T45 l0 x11_1).f0) ((rd_T45 l0 x11_1).f1) ((rd_T45 l0 x11_1).f2) ((rd_T45 l0 x11_1).f3) false _ A5.out).mono ?_); rintro e w16 ⟨rfl, hb⟩; refine ⟨_, rfl, ?_⟩; replace HO_4 := a0_ (Kd.R_below (kR_ (Kd.R_mono (rf4_ gb518 (Kd.R_mono HO_4.out (fun k_ hk => (⟨hk, hk.2⟩ : _ ∧ k_ ≠ gb518))) (fun _ hk => hk.2) (.string ((rd_T45 l0 x11_1).f0)) (.int .i64 ((rd_T45 l0 x11_1).f1)) (.int .i64 ((rd_T45 l0 x11_1).f2)) (.string ((rd_T45 l0 x11_1).f3))) (fun _ h_ => h_.1))) hb); replace BK518 := a0_ (blk_below (g := gb518) (o := .cells #[.string ((rd_T45 l0 x11_1).f0), .int .i64 ((rd_T45 l0 x11_1).f1), .int .i64 ((rd_T45 l0 x11_1).f2), .string ((rd_T45 l0 x11_1).f3)] 45 (0, 0)) (put4_ BK518.out) hb); replace HB := a0_ (below_step bq1_ hb); clear hb))
    go_ret2
    exact ⟨_, rr_, by first | exact Kd.S_nil _ _ _ _ _ | exact Kd.N_nil _ _ _ _ _ | exact Kd.V_nil _ _ _ _ _ | exact Kd.Q_nil _ _ _ _ _ | exact Kd.R_nil _ _ _ _ _, bq1_⟩
   subst c6
   rw [if_pos rfl] at H
   obtain ⟨t520, A7, H⟩ := ob_ H
   have H' := a0_ H
   clear H
   have p517 := t0_ (x11_1)
   have q517 := tl_ (x11_1) (l0.length)
   obtain ⟨ad517, e517, -, -, -, -, hx517_0, hx517_1, hx517_2, hx517_3⟩ := rp_ HB (at_T45 HR0.out x11_1 (of_eq_true p517) (of_eq_true q517))
   cases e517
   go_wp2_with (first | ((with_reducible refine gate_dst (N := 6) rfl ?_); (try (refine gate_guard (by rfl) ?_; dsimp only)); refine boxS_ 6 #[.string (⟨#[]⟩ : ByteArray), .int .i64 0, .int .i64 0, .string (⟨#[]⟩ : ByteArray)] 45 (fun gb518 hg w8 hbox hb => ?_); replace HO_4 := a0_ (Kd.R_below (Kd.R_elderB (kR_ HO_4.out) gb518 (Nat.le_of_eq hg.symm)) hb); have BK518 := a0_ (hbox); have GW518 := a0_ (gw_ hg : w.heap.size ≤ gb518); replace HB := a0_ (below_step bq0_ hb); have GE518 := GW518; clear hb hbox hg; obtain ⟨_, _, _, _, _, _, _, _⟩ := bk4_ BK518.out) | ((with_reducible refine gt_ 61 rfl ?_); refine gs_ 16 Tryz.func61 #[.agg #[.string ((rd_T45 l0 x11_1).f0), .int .i64 ((rd_T45 l0 x11_1).f1), .int .i64 ((rd_T45 l0 x11_1).f2), .string ((rd_T45 l0 x11_1).f3)]] ?_; (with_reducible refine (spec_GoodRecord.calls k1 ((rd_T45 l0 x11_1).f0) ((rd_T45 l0 x11_1).f1) ((rd_T45 l0 x11_1).f2) ((rd_T45 l0 x11_1).f3) true _ A5.out).mono ?_); rintro e w10 ⟨rfl, hb⟩; refine ⟨_, rfl, ?_⟩; replace HO_4 := a0_ (Kd.R_below (kR_ (Kd.R_mono (rf4_ gb518 (Kd.R_mono HO_4.out (fun k_ hk => (⟨hk, hk.2⟩ : _ ∧ k_ ≠ gb518))) (fun _ hk => hk.2) (.string ((rd_T45 l0 x11_1).f0)) (.int .i64 ((rd_T45 l0 x11_1).f1)) (.int .i64 ((rd_T45 l0 x11_1).f2)) (.string ((rd_T45 l0 x11_1).f3))) (fun _ h_ => h_.1))) hb); replace BK518 := a0_ (blk_below (g := gb518) (o := .cells #[.string ((rd_T45 l0 x11_1).f0), .int .i64 ((rd_T45 l0 x11_1).f1), .int .i64 ((rd_T45 l0 x11_1).f2), .string ((rd_T45 l0 x11_1).f3)] 45 (0, 0)) (put4_ BK518.out) hb); replace HB := a0_ (below_step bq1_ hb); clear hb; obtain ⟨_, _, _, _, _, _, _, _⟩ := bk4_ BK518.out; obtain ⟨Ao12, co12, eo12⟩ := Kd.R_slice HO_4.out; subst eo12) | ((with_reducible refine gt_ 72 rfl ?_); refine gs_ 20 Tryz.func72 #[.slice Ao12 x4_1.length co12, .agg #[.string ((rd_T45 l0 x11_1).f0), .int .i64 ((rd_T45 l0 x11_1).f1), .int .i64 ((rd_T45 l0 x11_1).f2), .string ((rd_T45 l0 x11_1).f3)]] ?_; (with_reducible refine (spec_l3Put.calls k1 (fun k_ => some k_ = (.slice Ao12 x4_1.length co12 : Value).ownBlock) (.slice Ao12 x4_1.length co12) x4_1 ((rd_T45 l0 x11_1).f0) ((rd_T45 l0 x11_1).f1) ((rd_T45 l0 x11_1).f2) ((rd_T45 l0 x11_1).f3) t520 w _ ?side1 ?side2 A7.out).mono ?_); (case side1 => exact bq2_); (case side2 => exact Kd.R_tight rfl HO_4.out); rintro e w13 ⟨v521, rfl, ho0, hb, hkp⟩; refine ⟨_, rfl, ?_⟩; have HO522 := a0_ (Kd.R_mono (ok' := fun k_ => k_ ≠ gb518) ho0 (fun k_ hk_ => Or.elim hk_ (fun hs_ => fun e_ => (Kd.R_away HO_4.out (fun _ hk => hk.2)) (by rw [← e_]; exact hs_)) (fun hn_ => (Kd.freshB (g := gb518) (o := .cells #[.string ((rd_T45 l0 x11_1).f0), .int .i64 ((rd_T45 l0 x11_1).f1), .int .i64 ((rd_T45 l0 x11_1).f2), .string ((rd_T45 l0 x11_1).f3)] 45 (0, 0)) (kB_ BK518.out) k_ hn_)))); replace BK518 := a0_ (blk_kept (kB_ BK518.out) hkp (fun hs_ => (fun e_ => (Kd.R_away HO_4.out (fun _ hk => hk.2)) e_) hs_)); replace HB := a0_ (hb); clear HO_4; clear hb; (try clear hkp); (try clear ho0)))
   go_roundg k1
   case measure => have := HK1.out; omega
   case rel => exact ⟨(t520), (wrap64 (x11_1 + 1)), rs_, H', jl_ HK1, ⟨kR_ (Kd.R_mono HO522.out (fun _ hk => trivial))⟩, ⟨bq1_⟩⟩
def impl_areRecords_1.f (k : Nat) (a0_0 : ByteArray) (a0_1 : Int) (a0_2 : Int) (a0_3 : ByteArray) : Option (Bool) := (impl_GoodRecord.f k a0_0 a0_1 a0_2 a0_3).bind fun t1468 => (some (!t1468))
theorem impl_areRecords_1.calls (k : Nat) (a0_0 : ByteArray) (a0_1 : Int) (a0_2 : Int) (a0_3 : ByteArray) (r : Bool) (w : World) (h : impl_areRecords_1.f k a0_0 a0_1 a0_2 a0_3 = some r) (hv_ : Vars w := by exact vv_) :
 Calls Tryz.prog 136 #[.agg #[.string a0_0, .int .i64 a0_1, .int .i64 a0_2, .string a0_3]] w fun e w' => e = .returned (.bool r) ∧ Below w.heap.size w w' := by
 have HV_ := a0_ hv_
 clear hv_
 have hu45 := Tryz.underlying45
 have HB := a0_ (Below.refl w.heap.size w)
 have H := h
 clear h
 unfold impl_areRecords_1.f at H
 obtain ⟨t1468, A2, H⟩ := ob_ H
 obtain rfl := Option.some.inj H
 go_enter Tryz.func136, Tryz.ntmps136
 go_wp2_with (first | ((with_reducible refine gate_dst (N := 1) rfl ?_); refine boxS_ 1 #[.string a0_0, .int .i64 a0_1, .int .i64 a0_2, .string a0_3] 45 (fun gb1467 hg w3 hbox hb => ?_); have BK1467 := a0_ (hbox); have GW1467 := a0_ (gw_ hg : w.heap.size ≤ gb1467); replace HB := a0_ (below_step bq0_ hb); have GE1467 := GW1467; clear hb hbox hg; obtain ⟨_, _, _, _, _, _, _, _⟩ := bk4_ BK1467.out) | ((with_reducible refine gt_ 29 rfl ?_); refine gs_ 4 Tryz.func29 #[.agg #[.string a0_0, .int .i64 a0_1, .int .i64 a0_2, .string a0_3]] ?_; (with_reducible refine (impl_GoodRecord.calls k a0_0 a0_1 a0_2 a0_3 t1468 _ A2.out).mono ?_); rintro e w5 ⟨rfl, hb⟩; refine ⟨_, rfl, ?_⟩; replace BK1467 := a0_ (bkB_ BK1467 hb); replace HB := a0_ (below_step bq1_ hb); clear hb))
 go_ret
 exact ⟨rr_, bq1_⟩
mutual
def impl_takeName.l0 : Nat → ByteArray → Int → List ByteArray → List Int → Int → Int → Option (ByteArray × List Int × Int × Bool)
 | 0, _, _, _, _, _, _ => none
 | k + 1, x0, x1, x8, x9, x10, x11 => if x1 < (x0.size : Int) then (impl_takeName.j1 k x0 x1 x8 x9 x10 x11 (decide ((x8.length : Int) ≤ 8))) else (impl_takeName.j1 k x0 x1 x8 x9 x10 x11 false)
def impl_takeName.j1 : Nat → ByteArray → Int → List ByteArray → List Int → Int → Int → Bool → Option (ByteArray × List Int × Int × Bool)
 | 0, _, _, _, _, _, _, _ => none
 | k + 1, x0, x1, x8, x9, x10, x11, x26 => if x26 = true then (if 0 ≤ x1 then (if x1 < (x0.size : Int) then (if (wrap64 (bt x0 x1)) = 0 then (if x11 < 0 then ((impl_NameOf.f x8).bind fun bt261 => (some (bt261.1, x9, wrap64 (x1 + 1), bt261.2))) else ((impl_NameOf.f x8).bind fun bt263 => (some (bt263.1, x9, x11, bt263.2)))) else (if (wrap64 (bt x0 x1)) ≥ 192 then (if (wrap64 (x1 + 1)) ≥ (x0.size : Int) then (some ((⟨#[]⟩ : ByteArray), ([] : List Int), 0, false)) else (if x11 < 0 then (if 0 ≤ (wrap64 (x1 + 1)) then (if (wrap64 (x1 + 1)) < (x0.size : Int) then (if (wrap64 ((wrap64 ((Int.tmod (wrap64 (bt x0 x1)) 64) * 256)) + (wrap64 (bt x0 (wrap64 (x1 + 1)))))) ≥ x10 then (some ((⟨#[]⟩ : ByteArray), ([] : List Int), 0, false)) else (impl_takeName.l0 k x0 (wrap64 ((wrap64 ((Int.tmod (wrap64 (bt x0 x1)) 64) * 256)) + (wrap64 (bt x0 (wrap64 (x1 + 1)))))) x8 x9 (wrap64 ((wrap64 ((Int.tmod (wrap64 (bt x0 x1)) 64) * 256)) + (wrap64 (bt x0 (wrap64 (x1 + 1)))))) (wrap64 (x1 + 2)))) else (none)) else (none)) else (if 0 ≤ (wrap64 (x1 + 1)) then (if (wrap64 (x1 + 1)) < (x0.size : Int) then (if (wrap64 ((wrap64 ((Int.tmod (wrap64 (bt x0 x1)) 64) * 256)) + (wrap64 (bt x0 (wrap64 (x1 + 1)))))) ≥ x10 then (some ((⟨#[]⟩ : ByteArray), ([] : List Int), 0, false)) else (impl_takeName.l0 k x0 (wrap64 ((wrap64 ((Int.tmod (wrap64 (bt x0 x1)) 64) * 256)) + (wrap64 (bt x0 (wrap64 (x1 + 1)))))) x8 x9 (wrap64 ((wrap64 ((Int.tmod (wrap64 (bt x0 x1)) 64) * 256)) + (wrap64 (bt x0 (wrap64 (x1 + 1)))))) x11)) else (none)) else (none)))) else (if (wrap64 (bt x0 x1)) ≥ 64 then (impl_takeName.j2 k x0 x1 x8 x9 x10 x11 (wrap64 (bt x0 x1)) true) else (impl_takeName.j2 k x0 x1 x8 x9 x10 x11 (wrap64 (bt x0 x1)) (decide ((wrap64 ((wrap64 (x1 + 1)) + (wrap64 (bt x0 x1)))) > (x0.size : Int))))))) else (none)) else (none)) else (some ((⟨#[]⟩ : ByteArray), ([] : List Int), 0, false))
def impl_takeName.j2 : Nat → ByteArray → Int → List ByteArray → List Int → Int → Int → Int → Bool → Option (ByteArray × List Int × Int × Bool)
 | 0, _, _, _, _, _, _, _, _ => none
 | k + 1, x0, x1, x8, x9, x10, x11, x12, x94 => if x94 = true then (some ((⟨#[]⟩ : ByteArray), ([] : List Int), 0, false)) else (if x11 < 0 then (if x9.length < 17592186044416 then (if 0 ≤ (wrap64 (x1 + 1)) then (if (wrap64 (x1 + 1)) ≤ (wrap64 ((wrap64 (x1 + 1)) + x12)) then (if (wrap64 ((wrap64 (x1 + 1)) + x12)) ≤ (x0.size : Int) then ((impl_small.f (x0.extract ((wrap64 (x1 + 1)) : Int).toNat ((wrap64 ((wrap64 (x1 + 1)) + x12)) : Int).toNat)).bind fun t268 => (if x8.length < 8796093022208 then (impl_takeName.l0 k x0 (wrap64 (x1 + (wrap64 (1 + x12)))) (x8 ++ [t268]) (x9 ++ [x1]) x10 x11) else (none))) else (none)) else (none)) else (none)) else (none)) else (if 0 ≤ (wrap64 (x1 + 1)) then (if (wrap64 (x1 + 1)) ≤ (wrap64 ((wrap64 (x1 + 1)) + x12)) then (if (wrap64 ((wrap64 (x1 + 1)) + x12)) ≤ (x0.size : Int) then ((impl_small.f (x0.extract ((wrap64 (x1 + 1)) : Int).toNat ((wrap64 ((wrap64 (x1 + 1)) + x12)) : Int).toNat)).bind fun t272 => (if x8.length < 8796093022208 then (impl_takeName.l0 k x0 (wrap64 (x1 + (wrap64 (1 + x12)))) (x8 ++ [t272]) x9 x10 x11) else (none))) else (none)) else (none)) else (none)))
end
def impl_takeName.f (k : Nat) (a0 : ByteArray) (a1 : Int) : Option (ByteArray × List Int × Int × Bool) := impl_takeName.l0 k a0 a1 (([] : List ByteArray)) (([] : List Int)) a1 (-1)
theorem impl_takeName.mono_l : ∀ k, (∀ y0 y1 y2 y3 y4 y5, LeO (impl_takeName.l0 k y0 y1 y2 y3 y4 y5) (impl_takeName.l0 (k + 1) y0 y1 y2 y3 y4 y5)) ∧ (∀ y0 y1 y2 y3 y4 y5 y6, LeO (impl_takeName.j1 k y0 y1 y2 y3 y4 y5 y6) (impl_takeName.j1 (k + 1) y0 y1 y2 y3 y4 y5 y6)) ∧ (∀ y0 y1 y2 y3 y4 y5 y6 y7, LeO (impl_takeName.j2 k y0 y1 y2 y3 y4 y5 y6 y7) (impl_takeName.j2 (k + 1) y0 y1 y2 y3 y4 y5 y6 y7))
 | 0 => ⟨fun _ _ _ _ _ _ r h => by simp [impl_takeName.l0] at h, fun _ _ _ _ _ _ _ r h => by simp [impl_takeName.j1] at h, fun _ _ _ _ _ _ _ _ r h => by simp [impl_takeName.j2] at h⟩
 | k + 1 => by
  obtain ⟨ih0, ih1, ih2⟩ := impl_takeName.mono_l k
  refine ⟨?_, ?_, ?_⟩
  · intro y0 y1 y2 y3 y4 y5
    unfold impl_takeName.l0
    repeat' first | (with_reducible first | exact ih0 _ _ _ _ _ _ | exact ih1 _ _ _ _ _ _ _ | exact ih2 _ _ _ _ _ _ _ _ | exact LeO.refl _ | exact LeO.none _ | refine LeO.ite ?_ ?_ | refine LeO.bind ?_ (fun _ => ?_)) | exact LeO.none _ | refine LeO.ite ?_ ?_ | refine LeO.bind ?_ (fun _ => ?_)
  · intro y0 y1 y2 y3 y4 y5 y6
    unfold impl_takeName.j1
    repeat' first | (with_reducible first | exact ih0 _ _ _ _ _ _ | exact ih1 _ _ _ _ _ _ _ | exact ih2 _ _ _ _ _ _ _ _ | exact LeO.refl _ | exact LeO.none _ | refine LeO.ite ?_ ?_ | refine LeO.bind ?_ (fun _ => ?_)) | exact LeO.none _ | refine LeO.ite ?_ ?_ | refine LeO.bind ?_ (fun _ => ?_)
  · intro y0 y1 y2 y3 y4 y5 y6 y7
    unfold impl_takeName.j2
    repeat' first | (with_reducible first | exact ih0 _ _ _ _ _ _ | exact ih1 _ _ _ _ _ _ _ | exact ih2 _ _ _ _ _ _ _ _ | exact LeO.refl _ | exact LeO.none _ | refine LeO.ite ?_ ?_ | refine LeO.bind ?_ (fun _ => ?_)) | exact LeO.none _ | refine LeO.ite ?_ ?_ | refine LeO.bind ?_ (fun _ => ?_)
theorem impl_takeName.mono : ∀ a0 a1 k, LeO (impl_takeName.f k a0 a1) (impl_takeName.f (k + 1) a0 a1) := by
 intro a0 a1 k
 obtain ⟨ih0, ih1, ih2⟩ := impl_takeName.mono_l k
 unfold impl_takeName.f
 repeat' first | (with_reducible first | exact ih0 _ _ _ _ _ _ | exact ih1 _ _ _ _ _ _ _ | exact ih2 _ _ _ _ _ _ _ _ | exact LeO.refl _ | exact LeO.none _ | refine LeO.ite ?_ ?_ | refine LeO.bind ?_ (fun _ => ?_)) | exact LeO.none _ | refine LeO.ite ?_ ?_ | refine LeO.bind ?_ (fun _ => ?_)
end Go.Proofs.YtiegkjimpclmaaaGreatDoor.P
namespace Go.Proofs.YtiegkjimpclmaaaGreatDoor.P
attribute [local go_sem] max2_int min2_int max_two min_two max_three min_three max_four min_four
attribute [-simp] ByteArray.size_extract
end Go.Proofs.YtiegkjimpclmaaaGreatDoor.P
namespace Go.Proofs.YtiegkjimpclmaaaGreatDoor.Pure
open Go.Proofs.YtiegkjimpclmaaaGreatDoor.P
theorem cmpP_lt (a b : ByteArray) : cmpP a b = if a.data.toList < b.data.toList then -1 else if b.data.toList < a.data.toList then 1 else 0 := by
 unfold cmpP
 rw [Go.Proofs.bytesLess_eq, Go.Proofs.bytesLess_eq, Lib.toList_data, Lib.toList_data]
 simp only [decide_eq_true_eq]
theorem lst_tri (a b : List UInt8) : a < b ∨ a = b ∨ b < a := by
 by_cases h1 : a < b
 · exact .inl h1
 · by_cases h2 : b < a
   · exact .inr (.inr h2)
   · exact .inr (.inl (List.le_antisymm h2 h1))
theorem cmpP_zero (a b : ByteArray) : cmpP a b = 0 ↔ a = b := by
 rw [cmpP_lt]
 rcases lst_tri a.data.toList b.data.toList with h | h | h
 · rw [if_pos h]
   refine ⟨fun h0 => by omega, fun e => ?_⟩
   rw [e] at h
   exact absurd h (List.lt_irrefl _)
 · have hn : ¬ a.data.toList < b.data.toList := by rw [h]; exact List.lt_irrefl _
   have hn2 : ¬ b.data.toList < a.data.toList := by rw [h]; exact List.lt_irrefl _
   rw [if_neg hn, if_neg hn2]
   exact ⟨fun _ => ext_data h, fun _ => rfl⟩
 · have hn : ¬ a.data.toList < b.data.toList := fun h' => absurd (List.lt_trans h h') (List.lt_irrefl _)
   rw [if_neg hn, if_pos h]
   refine ⟨fun h0 => by omega, fun e => ?_⟩
   rw [e] at h
   exact absurd h (List.lt_irrefl _)
theorem cmpP_neg (a b : ByteArray) : cmpP b a = - cmpP a b := by
 rw [cmpP_lt, cmpP_lt]
 by_cases h : a.data.toList < b.data.toList
 · have hn : ¬ b.data.toList < a.data.toList := fun h' => absurd (List.lt_trans h h') (List.lt_irrefl _)
   rw [if_neg hn, if_pos h, if_pos h]; rfl
 · by_cases h' : b.data.toList < a.data.toList
   · rw [if_pos h', if_neg h, if_pos h']
   · rw [if_neg h', if_neg h, if_neg h, if_neg h']; rfl
theorem cmpP_less (a b : ByteArray) : cmpP a b < 0 ↔ a.data.toList < b.data.toList := by
 rw [cmpP_lt]
 by_cases h : a.data.toList < b.data.toList
 · rw [if_pos h]; exact ⟨fun _ => h, fun _ => by decide⟩
 · rw [if_neg h]
   refine ⟨fun h' => ?_, fun h' => absurd h' h⟩
   split at h' <;> omega
theorem cmpP_trans {a b c : ByteArray} (h : cmpP a b < 0) (h' : cmpP b c < 0) : cmpP a c < 0 := by
 rw [cmpP_less] at *
 exact List.lt_trans h h'
theorem cmpL_zero : ∀ x y : List ByteArray, cmpL x y = 0 ↔ x = y
 | [], [] => ⟨fun _ => rfl, fun _ => rfl⟩
 | [], _ :: _ => ⟨fun h => by simp [cmpL] at h, fun h => by cases h⟩
 | _ :: _, [] => ⟨fun h => by simp [cmpL] at h, fun h => by cases h⟩
 | a :: x, b :: y => by
  unfold cmpL
  by_cases h : cmpP a b = 0
  · rw [if_pos h, cmpL_zero x y, (cmpP_zero a b).1 h]
    exact ⟨fun e => by rw [e], fun e => by injection e⟩
  · rw [if_neg h]
    refine ⟨fun e => absurd e h, fun e => ?_⟩
    injection e with e1 e2
    exact absurd ((cmpP_zero a b).2 e1) h
theorem cmpL_neg : ∀ x y : List ByteArray, cmpL y x = - cmpL x y
 | [], [] => rfl
 | [], _ :: _ => rfl
 | _ :: _, [] => rfl
 | a :: x, b :: y => by
  unfold cmpL
  have hn := cmpP_neg a b
  by_cases h : cmpP a b = 0
  · rw [if_pos h, if_pos (by rw [hn, h]; rfl), cmpL_neg x y]
  · rw [if_neg h, if_neg (by rw [hn]; omega), hn]
theorem cmpL_trans : ∀ x y z : List ByteArray, cmpL x y < 0 → cmpL y z < 0 → cmpL x z < 0
 | [], [], z, h, h' => by simp [cmpL] at h
 | [], _ :: _, [], h, h' => by simp [cmpL] at h'
 | [], _ :: _, _ :: _, h, h' => by simp [cmpL]
 | _ :: _, [], z, h, h' => by simp [cmpL] at h
 | _ :: _, _ :: _, [], h, h' => by simp [cmpL] at h'
 | a :: x, b :: y, c :: z, h, h' => by
  unfold cmpL at h h' ⊢
  by_cases h1 : cmpP a b = 0
  · rw [if_pos h1] at h
    obtain rfl := (cmpP_zero a b).1 h1
    by_cases h2 : cmpP a c = 0
    · rw [if_pos h2] at h' ⊢
      exact cmpL_trans x y z h h'
    · rw [if_neg h2] at h' ⊢
      exact h'
  · rw [if_neg h1] at h
    by_cases h2 : cmpP b c = 0
    · obtain rfl := (cmpP_zero b c).1 h2
      rw [if_neg h1]
      exact h
    · rw [if_neg h2] at h'
      have h3 := cmpP_trans h h'
      rw [if_neg (by omega)]
      exact h3
def unO : List (List UInt8) → List UInt8
 | [] => []
 | [p] => p
 | p :: q :: r => p ++ 46 :: unO (q :: r)
theorem unO_split : ∀ s : List UInt8, unO (splitL 46 s) = s
 | [] => rfl
 | x :: xs => by
  have ih := unO_split xs
  obtain ⟨p, ps, hp⟩ := List.exists_cons_of_ne_nil (splitL_ne 46 xs)
  unfold splitL
  rw [hp] at ih ⊢
  by_cases h : x = 46
  · rw [if_pos h]
    show [] ++ 46 :: unO (p :: ps) = _
    rw [ih, h]
    rfl
  · rw [if_neg h]
    cases ps with
    | nil => show x :: p = _; rw [show p = xs from ih]
    | cons q r =>
     show (x :: p) ++ 46 :: unO (q :: r) = _
     have ih2 : p ++ 46 :: unO (q :: r) = xs := ih
     rw [List.cons_append, ih2]
theorem labels_inj {a b : List UInt8} (h : labelsL a = labelsL b) : a = b := by
 unfold labelsL at h
 by_cases ha : a = []
 · rw [if_pos ha] at h
   by_cases hb : b = []
   · rw [ha, hb]
   · rw [if_neg hb] at h
     exact absurd h.symm (splitL_ne 46 b)
 · rw [if_neg ha] at h
   by_cases hb : b = []
   · rw [if_pos hb] at h
     exact absurd h (splitL_ne 46 a)
   · rw [if_neg hb] at h
     rw [← unO_split a, ← unO_split b, h]
theorem ord_zero (a b : List UInt8) : ordL a b = 0 ↔ a = b := by
 unfold ordL
 rw [cmpL_zero]
 refine ⟨fun h => ?_, fun h => by rw [h]⟩
 have h1 := List.reverse_inj.1 h
 refine labels_inj ?_
 have h2 := congrArg (List.map fun x : ByteArray => x.data.toList) h1
 rw [List.map_map, List.map_map] at h2
 have : ((fun x : ByteArray => x.data.toList) ∘ mkB) = id := by funext z; exact mkB_data z
 rwa [this, List.map_id, List.map_id] at h2
theorem ord_neg (a b : List UInt8) : ordL b a = - ordL a b := cmpL_neg _ _
theorem ord_trans {a b c : List UInt8} (h : ordL a b < 0) (h' : ordL b c < 0) : ordL a c < 0 := cmpL_trans _ _ _ h h'
theorem split32_loop (s : ByteArray) (hs : s.size < 1099511627776) : ∀ (m i a : Nat) (acc : List ByteArray), i + m = s.size → a ≤ i → (∀ x ∈ (s.data.toList.drop a).take (i - a), x ≠ 32) → acc.length ≤ a →
 spec_l1Split.l0 (m + 1) s 32 acc (a : Int) (i : Int) = some (acc ++ (splitL 32 (s.data.toList.drop a)).map mkB)
 | 0, i, a, acc, him, hai, hx, hacc => by
  unfold spec_l1Split.l0
  rw [if_neg (by omega), if_pos (by omega), if_pos (by omega), if_pos (by omega)]
  rw [List.take_of_length_le (by rw [List.length_drop, ← size_len]; omega)] at hx
  rw [splitL_none 32 _ hx, Int.toNat_natCast, ext_end]
  rfl
 | m + 1, i, a, acc, him, hai, hx, hacc => by
  have hi : i < s.data.toList.length := by rw [← size_len]; omega
  unfold spec_l1Split.l0
  rw [if_pos (by omega), if_pos (by omega), bt_list s i hi, w64n (by omega)]
  have hd : s.data.toList.drop a = (s.data.toList.drop a).take (i - a) ++ s.data.toList[i] :: s.data.toList.drop (i + 1) := by
   conv => lhs; rw [← List.take_append_drop (i - a) (s.data.toList.drop a)]
   congr 1
   rw [List.drop_drop, show a + (i - a) = i by omega, List.drop_eq_getElem_cons hi]
  by_cases h : s.data.toList[i] = 32
  · rw [if_pos (by rw [h]; rfl), if_pos (by omega), if_pos (by omega), if_pos (by omega), if_pos (by omega), Int.toNat_natCast, Int.toNat_natCast, ext_mkB]
    rw [split32_loop s hs m (i + 1) (i + 1) _ (by omega) (by omega) (by simp) (by simp; omega)]
    conv => rhs; rw [hd, h, splitL_hit 32 _ _ hx]
    simp
  · rw [if_neg (by intro e; apply h; apply UInt8.toNat_inj.1; simpa using Int.ofNat.inj e)]
    refine split32_loop s hs m (i + 1) a acc (by omega) (by omega) ?_ hacc
    intro x hm
    rw [show i + 1 - a = (i - a) + 1 by omega, List.take_add_one] at hm
    rcases List.mem_append.1 hm with hm | hm
    · exact hx x hm
    · rw [List.getElem?_drop, show a + (i - a) = i by omega, List.getElem?_eq_getElem hi] at hm
      obtain rfl : x = s.data.toList[i] := by simpa using hm
      exact h
theorem split32_ev (s : ByteArray) (hs : s.size < 1099511627776) : Ev (fun k => spec_l1Split.f k s 32) ((splitL 32 s.data.toList).map mkB) := by
 refine Ev.of (fun k => spec_l1Split.mono _ _ _) (k := s.size + 1) ?_
 unfold spec_l1Split.f
 have := split32_loop s hs s.size 0 0 [] (by omega) (by omega) (by simp) (by simp)
 simpa using this
theorem good_all {s : List UInt8} (h : goodL s = true) : (labelsL s).length ≤ 8 ∧ ∀ x ∈ labelsL s, isLabelL x = true := by
 unfold goodL at h
 simp only [Bool.and_eq_true, decide_eq_true_eq, List.all_eq_true] at h
 exact h.2
theorem big1 (n : Int) : Ev (fun k => impl_big.f k n 1) (strOfNums [n % 256]) := by
 refine Ev.of (fun k => impl_big.mono _ _ _) (k := 2) ?_
 show impl_big.f 2 n 1 = _
 simp [impl_big.f, impl_big.l0, wrap64, shr, IntKind.bits]
theorem num1 (n : Int) : Ev (fun k => spec_l3Number.f k n 1) (strOfNums [n % 256]) := by
 refine Ev.of (fun k => spec_l3Number.mono _ _ _) (k := 2) ?_
 show spec_l3Number.f 2 n 1 = _
 simp [spec_l3Number.f, spec_l3Number.l0, wrap64]
theorem big2 (n : Int) : Ev (fun k => impl_big.f k n 2) (strOfNums [n / 256 % 256, n % 256]) := by
 refine Ev.of (fun k => impl_big.mono _ _ _) (k := 3) ?_
 show impl_big.f 3 n 2 = _
 simp [impl_big.f, impl_big.l0, wrap64, shr, IntKind.bits]
theorem num2 (n : Int) : Ev (fun k => spec_l3Number.f k n 2) (strOfNums [n / 256 % 256, n % 256]) := by
 refine Ev.of (fun k => spec_l3Number.mono _ _ _) (k := 3) ?_
 show spec_l3Number.f 3 n 2 = _
 simp [spec_l3Number.f, spec_l3Number.l0, wrap64]
theorem big4 (n : Int) : Ev (fun k => impl_big.f k n 4) (strOfNums [n / 16777216 % 256, n / 65536 % 256, n / 256 % 256, n % 256]) := by
 refine Ev.of (fun k => impl_big.mono _ _ _) (k := 5) ?_
 show impl_big.f 5 n 4 = _
 simp [impl_big.f, impl_big.l0, wrap64, shr, IntKind.bits]
theorem num4 (n : Int) : Ev (fun k => spec_l3Number.f k n 4) (strOfNums [n / 16777216 % 256, n / 65536 % 256, n / 256 % 256, n % 256]) := by
 refine Ev.of (fun k => spec_l3Number.mono _ _ _) (k := 5) ?_
 show spec_l3Number.f 5 n 4 = _
 simp [spec_l3Number.f, spec_l3Number.l0, wrap64, Int.ediv_ediv_of_nonneg]
def targL (l : List UInt8) : Bool := decide (l ≠ []) && (goodL l && !l.contains 42)
theorem contains_eq (s : ByteArray) : strings_Contains.f s (⟨#[42]⟩ : ByteArray) = some (s.data.toList.contains 42) := by
 unfold strings_Contains.f strings_Index.f internal_stringslite_Index.f
 rw [if_pos (show (⟨#[42]⟩ : ByteArray).size = 1 from rfl)]
 simp only [Option.bind_some]
 rw [show List.headD (⟨#[42]⟩ : ByteArray).data.toList 0 = 42 from rfl]
 congr 1
 rcases place_or 42 s.data.toList with ⟨h1, h2⟩ | ⟨p, r, h1, h2, h3⟩
 · rw [h1]
   have : s.data.toList.contains 42 = false := by
    rw [Bool.eq_false_iff]
    intro h
    rw [List.contains_iff_mem] at h
    exact h2 42 h rfl
   rw [this]
   rfl
 · rw [h3]
   have : s.data.toList.contains 42 = true := by
    rw [List.contains_iff_mem, h1]
    simp
   rw [this]
   exact decide_eq_true (by omega)
theorem target_impl (s : ByteArray) : impl_isTarget.f s = some (targL s.data.toList) := by
 unfold impl_isTarget.f impl_GoodName.f targL
 rw [Lib.toList_data, contains_eq]
 by_cases h : s.data.toList = []
 · rw [if_pos h, decide_eq_false (by simp [h])]; rfl
 · rw [if_neg h, decide_eq_true h, Option.bind_some, Bool.true_and]
   cases goodL s.data.toList with
   | true => rfl
   | false => rfl
theorem split_mem : ∀ (l : List UInt8) (b : UInt8), b ≠ 46 → (b ∈ l ↔ ∃ p ∈ splitL 46 l, b ∈ p)
 | [], b, hb => by simp [splitL]
 | x :: xs, b, hb => by
  have ih := split_mem xs b hb
  obtain ⟨p, ps, hp⟩ := List.exists_cons_of_ne_nil (splitL_ne 46 xs)
  unfold splitL
  rw [hp] at ih ⊢
  by_cases h : x = 46
  · rw [if_pos h, List.mem_cons, ih]
    constructor
    · rintro (e | ⟨q, hq, hb2⟩)
      · exact absurd (e.trans h) hb
      · exact ⟨q, List.mem_cons_of_mem _ hq, hb2⟩
    · rintro ⟨q, hq, hb2⟩
      rcases List.mem_cons.1 hq with rfl | hq
      · cases hb2
      · exact .inr ⟨q, hq, hb2⟩
  · rw [if_neg h, List.mem_cons, ih]
    constructor
    · rintro (e | ⟨q, hq, hb2⟩)
      · exact ⟨x :: p, List.mem_cons_self, by rw [e]; exact List.mem_cons_self⟩
      · rcases List.mem_cons.1 hq with rfl | hq
        · exact ⟨x :: q, List.mem_cons_self, List.mem_cons_of_mem _ hb2⟩
        · exact ⟨q, List.mem_cons_of_mem _ hq, hb2⟩
    · rintro ⟨q, hq, hb2⟩
      rcases List.mem_cons.1 hq with rfl | hq
      · rcases List.mem_cons.1 hb2 with e | hb2
        · exact .inl e
        · exact .inr ⟨p, List.mem_cons_self, hb2⟩
      · exact .inr ⟨q, List.mem_cons_of_mem _ hq, hb2⟩
theorem star_label {s : List UInt8} (h : goodL s = true) : s.contains 42 = true ↔ ∃ p ∈ labelsL s, p = [42] := by
 rw [List.contains_iff_mem]
 unfold labelsL
 by_cases h0 : s = []
 · rw [if_pos h0, h0]; simp
 · rw [if_neg h0, split_mem s 42 (by decide)]
   have hg := (good_all h).2
   unfold labelsL at hg
   rw [if_neg h0] at hg
   constructor
   · rintro ⟨p, hp, h42⟩
     refine ⟨p, hp, ?_⟩
     have := hg p hp
     unfold isLabelL at this
     rw [Bool.or_eq_true, beq_iff_eq, Bool.and_eq_true, List.all_eq_true] at this
     rcases this with e | e
     · exact e
     · exact absurd (e.2 42 h42) (by decide)
   · rintro ⟨p, hp, rfl⟩
     exact ⟨_, hp, List.mem_cons_self⟩
theorem td_rd (l : List ByteArray) (i : Nat) (h : i < l.length) : rdOf ByteArray.empty l (i : Int) = l[i] := by
 unfold rdOf
 rw [Int.toNat_natCast, List.getD_eq_getElem?_getD, List.getElem?_eq_getElem h]
 rfl
theorem target_loop (s : ByteArray) (l : List ByteArray) (hl : l.length < 1099511627776) : ∀ (m i : Nat) (ok : Bool), i + m = l.length →
 Ev (fun k => spec_l3Target.l0 k s ok l (l.length : Int) (i : Int)) (ok && ((l.drop i).all (fun x => decide (x.data.toList ≠ [42])) && decide (s.data.toList ≠ [])))
 | 0, i, ok, him => by
  rw [List.drop_of_length_le (by omega), List.all_nil, Bool.true_and]
  refine Ev.step (f := fun _ => some (ok && decide (s.data.toList ≠ []))) (fun k => ?_) (Ev.now _)
  show spec_l3Target.l0 (k + 1) s ok l (l.length : Int) (i : Int) = _
  conv => lhs; unfold spec_l3Target.l0
  rw [if_neg (by omega), Lib.toList_data]
  cases ok with
  | true =>
   rw [if_pos rfl, Bool.true_and]
   congr 1
   by_cases h : s.data.toList = []
   · rw [h]; simp
   · rw [decide_eq_true h, bne_iff_ne.mpr h]
  | false => rfl
 | m + 1, i, ok, him => by
  have hi : i < l.length := by omega
  have ih := target_loop s l hl m (i + 1) (ok && decide (l[i].data.toList ≠ [42])) (by omega)
  have e : (ok && decide (l[i].data.toList ≠ [42]) && ((l.drop (i + 1)).all (fun x => decide (x.data.toList ≠ [42])) && decide (s.data.toList ≠ []))) = (ok && ((l.drop i).all (fun x => decide (x.data.toList ≠ [42])) && decide (s.data.toList ≠ []))) := by
   rw [List.drop_eq_getElem_cons hi]
   rw [List.all_cons]
   cases ok
   · rfl
   · rw [Bool.true_and, Bool.true_and, Bool.and_assoc]
  rw [e] at ih
  refine Ev.step (fun k => ?_) ih
  show spec_l3Target.l0 (k + 1) s ok l (l.length : Int) (i : Int) = _
  conv => lhs; unfold spec_l3Target.l0
  rw [if_pos (by omega), if_pos (by omega), if_pos (by omega), td_rd l i hi, w64n (by omega), Lib.toList_data]
  cases ok with
  | true =>
   rw [if_pos rfl, Bool.true_and]
   congr 1
   by_cases h : l[i].data.toList = [42]
   · rw [h]; simp
   · rw [decide_eq_true h, bne_iff_ne.mpr h]
  | false => rfl
theorem Ev.unique {α : Type} {g : Nat → Option α} {r r' : α} (h : Ev g r) (h' : Ev g r') : r = r' := by
 obtain ⟨K, h⟩ := h
 obtain ⟨K', h'⟩ := h'
 have h1 := h (max K K') (by omega)
 rw [h' (max K K') (by omega)] at h1
 exact (Option.some.inj h1).symm
theorem labels_short (s : ByteArray) (hs : s.size ≤ 1048576) (r : List ByteArray × Bool) (e : Ev (fun k => spec_l1Labels.f k s) r) : r.1.length < 1099511627776 := by
 by_cases h : s.data.toList = []
 · have h2 : Ev (fun k => spec_l1Labels.f k s) ([], true) := Ev.congr (fun k => by unfold spec_l1Labels.f; rw [if_pos (by rw [Lib.toList_data]; exact h)]) (Ev.now _)
   rw [Ev.unique e h2]
   simp
 · have hlen : ((splitL 46 s.data.toList).map mkB).length ≤ s.size + 1 := by rw [List.length_map, size_len]; exact splitL_len _ _
   have h2 : Ev (fun k => spec_l1Labels.f k s) (labsR s ((splitL 46 s.data.toList).map mkB) 0) := by
    refine Ev.congr (f := fun k => (spec_l1Split.f k s 46).bind fun t => spec_l1Labels.l0 k s t t (t.length : Int) 0) (fun k => ?_) (Ev.bind (split_ev s (by omega)) ?_)
    · show spec_l1Labels.f k s = _
      unfold spec_l1Labels.f
      rw [if_neg (by rw [Lib.toList_data]; exact h)]
    · refine labels_loop s _ ?_ (by omega) _ 0 (Nat.zero_add _)
      intro p hp
      obtain ⟨q, hq, rfl⟩ := List.mem_map.1 hp
      have := splitL_part 46 _ q hq
      rw [mkB_size]
      rw [← size_len] at this
      omega
   rw [Ev.unique e h2]
   unfold labsR
   split
   · split
     · show ((splitL 46 s.data.toList).map mkB).length < _; omega
     · show ((splitL 46 s.data.toList).map mkB).length < _; omega
   · simp
theorem target_spec (s : ByteArray) (hs : s.size ≤ 1048576) : Ev (fun k => spec_l3Target.f k s) (targL s.data.toList) := by
 obtain ⟨r, e1, e2, e3⟩ := labels_ev s (by omega)
 have hlen : r.1.length < 1099511627776 := by
  by_cases h : r.2 = true
  · rw [e3 h, List.length_map]
    have := (good_all (e2.symm.trans h)).1
    omega
  · exact labels_short s hs r e1
 refine Ev.congr (fun k => rfl) (Ev.bind e1 ?_)
 have := target_loop s r.1 hlen r.1.length 0 r.2 (by omega)
 rw [List.drop_zero] at this
 have et : (r.2 && (r.1.all (fun x => decide (x.data.toList ≠ [42])) && decide (s.data.toList ≠ []))) = targL s.data.toList := by
  unfold targL
  rw [e2]
  cases hg : goodL s.data.toList with
  | false => simp
  | true =>
   rw [e3 (e2.trans hg), Bool.true_and, Bool.true_and, Bool.and_comm]
   congr 1
   have h1 := star_label hg
   rw [Bool.eq_iff_iff, List.all_eq_true, Bool.not_eq_true', Bool.eq_false_iff]
   constructor
   · intro h2 h3
     obtain ⟨p, hp, rfl⟩ := h1.1 h3
     exact of_decide_eq_true (h2 (mkB [42]) (List.mem_map.2 ⟨_, hp, rfl⟩)) (mkB_data _)
   · intro h2 x hx
     refine decide_eq_true fun h3 => ?_
     obtain ⟨p, hp, rfl⟩ := List.mem_map.1 hx
     rw [mkB_data] at h3
     exact h2 (h1.2 ⟨p, hp, h3⟩)
 rw [et] at this
 exact this
theorem cur_up {a : Int} {p q : Nat} (h : Cur a p) (k : p ≤ q) : Cur a q := ⟨h.1, by have := h.2; omega⟩
theorem among_some {l : List Int} (hl : Bytes l) {at_ sd : Int} {n : Nat} (hc : Cur at_ n) (hn : n < 4611686018427387000) (zs : List Int) (hz : 0 < zs.length) :
 ∃ x at2 sd2, spec_l1Cur_among.f l at_ sd zs = some (x, at2, sd2) ∧ x ∈ zs ∧ Cur at2 (n + 2) := by
 unfold spec_l1Cur_among.f
 obtain ⟨i, at2, sd2, e, hi, hc2⟩ := pick_some hl hc (by omega) (sd := sd) (zs.length : Int)
 rw [e]
 simp only [Option.bind_some]
 have hlt : i < (zs.length : Int) := by omega
 rw [if_pos hi.1, if_pos hlt]
 refine ⟨_, _, _, rfl, ?_, hc2⟩
 have h2 : i.toNat < zs.length := by omega
 rw [rd, List.getD_eq_getElem?_getD, List.getElem?_eq_getElem h2]
 exact List.getElem_mem h2
theorem target_some {l : List Int} (hl : Bytes l) {at_ sd : Int} {n : Nat} (hc : Cur at_ n) (hn : n < 4611686018427387000) :
 ∃ x at2 sd2, spec_l1Cur_target.f l at_ sd = some (x, at2, sd2) ∧ x.size ≤ 15 ∧ Cur at2 (n + 2) := by
 unfold spec_l1Cur_target.f
 obtain ⟨x, at2, sd2, e, hx, hc2⟩ := of_some hl hc (by omega) (sd := sd) ([(⟨#[97, 46, 101, 120, 46, 99, 111, 109]⟩ : ByteArray), (⟨#[98, 46, 101, 120, 46, 99, 111, 109]⟩ : ByteArray), (⟨#[110, 115, 46, 101, 120, 46, 99, 111, 109]⟩ : ByteArray), (⟨#[119, 119, 119, 46, 99, 111, 109]⟩ : ByteArray), (⟨#[120, 49, 46, 115, 117, 98, 46, 101, 120, 46, 99, 111, 109]⟩ : ByteArray)] : List ByteArray) (by decide)
 exact ⟨x, at2, sd2, by rw [e]; rfl, size_le (by decide) hx, hc2⟩
theorem one_some {l : List Int} (hl : Bytes l) {at_ sd : Int} {n : Nat} (hc : Cur at_ n) (hn : n < 4611686018427387900) (m : Int) :
 ∃ x at2 sd2, spec_l1Cur_one.f l at_ sd m = some (x, at2, sd2) ∧ Cur at2 (n + 2) := by
 obtain ⟨i, at2, sd2, e, hi, hc2⟩ := pick_some hl hc hn (sd := sd) m
 exact ⟨_, at2, sd2, by unfold spec_l1Cur_one.f; rw [e]; rfl, hc2⟩
theorem rec_j1 {l : List Int} (hl : Bytes l) {at_ sd : Int} {n : Nat} (hc : Cur at_ n) (hn : n < 4611686018427380000) (a : ByteArray) (b c : Int) (d : ByteArray) (hd : d.size ≤ 40) :
 ∃ b' c' d' at2 sd2, Ev (fun k => spec_l1Cur_record.j1 k l at_ sd a b c d) (a, b', c', d', at2, sd2) ∧ d'.size ≤ 40 ∧ Cur at2 (n + 4) := by
 obtain ⟨i, at2, sd2, e, hi, hc2⟩ := pick_some hl hc (by omega) (sd := sd) 40
 by_cases h0 : i = 0
 · obtain ⟨x, at3, sd3, e3, hx, hc3⟩ := among_some hl hc2 (by omega) (sd := sd2) ([(-1), 0, 100000, 100001] : List Int) (by decide)
   refine ⟨b, x, d, at3, sd3, Ev.step (f := fun _ => some (a, b, x, d, at3, sd3)) (fun k => ?_) (Ev.now _), hd, hc3⟩
   show (spec_l1Cur_pick.f l at_ sd 40).bind _ = _
   rw [e]
   simp only [Option.bind_some]
   rw [if_pos h0, e3]
   rfl
 · by_cases h1 : i = 1
   · obtain ⟨x, at3, sd3, e3, hx, hc3⟩ := of_some hl hc2 (by omega) (sd := sd2) ([(⟨#[49, 46, 50, 46, 51]⟩ : ByteArray), (⟨#[50, 53, 54, 46, 49, 46, 49, 46, 49]⟩ : ByteArray), (⟨#[42]⟩ : ByteArray), (⟨#[52, 50, 57, 52, 57, 54, 55, 50, 57, 53]⟩ : ByteArray), (⟨#[52, 50, 57, 52, 57, 54, 55, 50, 57, 54]⟩ : ByteArray), (⟨#[55, 48, 48, 48, 48, 32, 97, 46, 98]⟩ : ByteArray), (⟨#[48, 49, 46, 50, 46, 51, 46, 52]⟩ : ByteArray), (⟨#[1]⟩ : ByteArray)] : List ByteArray) (by decide)
     refine ⟨b, c, x, at3, sd3, Ev.step (f := fun _ => some (a, b, c, x, at3, sd3)) (fun k => ?_) (Ev.now _), size_le (by decide) hx, hc3⟩
     show (spec_l1Cur_pick.f l at_ sd 40).bind _ = _
     rw [e]
     simp only [Option.bind_some]
     rw [if_neg h0, if_pos h1, e3]
     rfl
   · by_cases h2 : i = 2
     · obtain ⟨x, at3, sd3, e3, hx, hc3⟩ := pick_some hl hc2 (by omega) (sd := sd2) 20
       refine ⟨x, c, d, at3, sd3, Ev.step (f := fun _ => some (a, x, c, d, at3, sd3)) (fun k => ?_) (Ev.now _), hd, hc3⟩
       show (spec_l1Cur_pick.f l at_ sd 40).bind _ = _
       rw [e]
       simp only [Option.bind_some]
       rw [if_neg h0, if_neg h1, if_pos h2, e3]
       rfl
     · refine ⟨b, c, d, at2, sd2, Ev.step (f := fun _ => some (a, b, c, d, at2, sd2)) (fun k => ?_) (Ev.now _), hd, cur_up hc2 (by omega)⟩
       show (spec_l1Cur_pick.f l at_ sd 40).bind _ = _
       rw [e]
       simp only [Option.bind_some]
       rw [if_neg h0, if_neg h1, if_neg h2]
theorem rec_j0 {l : List Int} (hl : Bytes l) {at_ sd : Int} {n : Nat} (hc : Cur at_ n) (hn : n < 4611686018427370000) (x14 : Int) (x25 : Bool) (a : ByteArray) (b c : Int) (d : ByteArray) :
 ∃ b' c' d' at2 sd2, Ev (fun k => spec_l1Cur_record.j0 k x14 x25 l at_ sd a b c d) (a, b', c', d', at2, sd2) ∧ d'.size ≤ 40 ∧ Cur at2 (n + 8) := by
 by_cases h0 : x25 = true
 · obtain ⟨x, at2, sd2, e, hx, hc2⟩ := target_some hl hc (by omega) (sd := sd)
   obtain ⟨b', c', d', at3, sd3, e3, h3, hc3⟩ := rec_j1 hl hc2 (by omega) (sd := sd2) a b c x (by omega)
   refine ⟨b', c', d', at3, sd3, Ev.step (fun k => ?_) e3, h3, cur_up hc3 (by omega)⟩
   show (if x25 = true then _ else _) = _
   rw [if_pos h0, e, Option.bind_some]
 · by_cases h6 : x14 = 6
   · obtain ⟨i, at2, sd2, e, hi, hc2⟩ := pick_some hl hc (by omega) (sd := sd) 20
     have hs := itB_size i hi.1 (by omega)
     obtain ⟨b', c', d', at3, sd3, e3, h3, hc3⟩ := rec_j1 hl hc2 (by omega) (sd := sd2) a b c (itB i) (by omega)
     refine ⟨b', c', d', at3, sd3, Ev.step (f := fun k => (spec_l1Num.f k i).bind fun t => spec_l1Cur_record.j1 k l at2 sd2 a b c t) (fun k => ?_) (Ev.bind (num_it i hi.1 (by omega)) e3), h3, cur_up hc3 (by omega)⟩
     show (if x25 = true then _ else _) = _
     rw [if_neg h0, if_pos h6, e, Option.bind_some]
   · by_cases h15 : x14 = 15
     · obtain ⟨i, at2, sd2, e, hi, hc2⟩ := pick_some hl hc (by omega) (sd := sd) 30
       have hs := itB_size i hi.1 (by omega)
       obtain ⟨x, at3, sd3, e3, hx, hc3⟩ := target_some hl hc2 (by omega) (sd := sd2)
       have hz : (itB i ++ (⟨#[32]⟩ : ByteArray)).size = (itB i).size + 1 := by rw [ByteArray.size_append]; rfl
       obtain ⟨b', c', d', at4, sd4, e4, h4, hc4⟩ := rec_j1 hl hc3 (by omega) (sd := sd3) a b c ((itB i ++ (⟨#[32]⟩ : ByteArray)) ++ x) (by rw [ByteArray.size_append, hz]; omega)
       refine ⟨b', c', d', at4, sd4, Ev.step (f := fun k => (spec_l1Num.f k i).bind fun t => (if t.size + 1 ≤ 9223372036854775807 then ((spec_l1Cur_target.f l at2 sd2).bind fun bt => (if (t ++ (⟨#[32]⟩ : ByteArray)).size + bt.1.size ≤ 9223372036854775807 then (spec_l1Cur_record.j1 k l bt.2.1 bt.2.2 a b c ((t ++ (⟨#[32]⟩ : ByteArray)) ++ bt.1)) else (none))) else (none))) (fun k => ?_) (Ev.bind (num_it i hi.1 (by omega)) ?_), h4, cur_up hc4 (by omega)⟩
       · show (if x25 = true then _ else _) = _
         rw [if_neg h0, if_neg h6, if_pos h15, e, Option.bind_some]
       · simp only [if_pos (show (itB i).size + 1 ≤ 9223372036854775807 by omega), e3, Option.bind_some, if_pos (show (itB i ++ (⟨#[32]⟩ : ByteArray)).size + x.size ≤ 9223372036854775807 by rw [hz]; omega)]
         exact e4
     · obtain ⟨x, at2, sd2, e, hx, hc2⟩ := of_some hl hc (by omega) (sd := sd) ([(⟨#[104, 101, 108, 108, 111]⟩ : ByteArray), (⟨#[]⟩ : ByteArray), (⟨#[118, 61, 49, 32, 120]⟩ : ByteArray)] : List ByteArray) (by decide)
       have hsz : x.size ≤ 40 := size_le (by decide) hx
       obtain ⟨b', c', d', at3, sd3, e3, h3, hc3⟩ := rec_j1 hl hc2 (by omega) (sd := sd2) a b c x hsz
       refine ⟨b', c', d', at3, sd3, Ev.step (fun k => ?_) e3, h3, cur_up hc3 (by omega)⟩
       show (if x25 = true then _ else _) = _
       rw [if_neg h0, if_neg h6, if_neg h15, e, Option.bind_some]
theorem rec_some {l : List Int} (hl : Bytes l) {at_ sd : Int} {n : Nat} (hc : Cur at_ n) (hn : n < 4611686018427360000) :
 ∃ a b c d at2 sd2, Ev (fun k => spec_l1Cur_record.f k l at_ sd) (a, b, c, d, at2, sd2) ∧ a.size ≤ 60 ∧ d.size ≤ 40 ∧ Cur at2 (n + 40) := by
 obtain ⟨a, at2, sd2, e, ha, hc2⟩ := name_some hl hc (by omega) (sd := sd)
 obtain ⟨b, at3, sd3, e3, hb, hc3⟩ := among_some hl hc2 (by omega) (sd := sd2) ([1, 1, 1, 2, 5, 15, 16, 6] : List Int) (by decide)
 obtain ⟨c, at4, sd4, e4, hc', hc4⟩ := among_some hl hc3 (by omega) (sd := sd3) ([5, 60, 60, 300] : List Int) (by decide)
 by_cases h1 : b = 1
 · obtain ⟨x, at5, sd5, e5, hx, hc5⟩ := of_some hl hc4 (by omega) (sd := sd4) ([(⟨#[49, 46, 50, 46, 51, 46, 52]⟩ : ByteArray), (⟨#[49, 46, 50, 46, 51, 46, 53]⟩ : ByteArray), (⟨#[49, 48, 46, 48, 46, 48, 46, 49]⟩ : ByteArray), (⟨#[57, 46, 57, 46, 57, 46, 57]⟩ : ByteArray)] : List ByteArray) (by decide)
   have hsz : x.size ≤ 40 := size_le (by decide) hx
   obtain ⟨b', c', d', at6, sd6, e6, h6, hc6⟩ := rec_j1 hl hc5 (by omega) (sd := sd5) a b c x hsz
   refine ⟨a, b', c', d', at6, sd6, Ev.congr (fun k => rfl) (Ev.bind e ?_), ha, h6, cur_up hc6 (by omega)⟩
   simp only [e3, Option.bind_some, e4, if_pos h1, e5]
   exact e6
 · by_cases h2 : b = 2
   · obtain ⟨b', c', d', at6, sd6, e6, h6, hc6⟩ := rec_j0 hl hc4 (by omega) (sd := sd4) b (b == 2) a b c (⟨#[]⟩ : ByteArray)
     refine ⟨a, b', c', d', at6, sd6, Ev.congr (fun k => rfl) (Ev.bind e ?_), ha, h6, cur_up hc6 (by omega)⟩
     simp only [e3, Option.bind_some, e4, if_neg h1, if_pos h2]
     exact e6
   · obtain ⟨b', c', d', at6, sd6, e6, h6, hc6⟩ := rec_j0 hl hc4 (by omega) (sd := sd4) b (b == 5) a b c (⟨#[]⟩ : ByteArray)
     refine ⟨a, b', c', d', at6, sd6, Ev.congr (fun k => rfl) (Ev.bind e ?_), ha, h6, cur_up hc6 (by omega)⟩
     simp only [e3, Option.bind_some, e4, if_neg h1, if_neg h2]
     exact e6
end Go.Proofs.YtiegkjimpclmaaaGreatDoor.Pure
