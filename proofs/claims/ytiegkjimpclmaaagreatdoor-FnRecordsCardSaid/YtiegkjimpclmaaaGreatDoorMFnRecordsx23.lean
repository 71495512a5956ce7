/- FnRecords: part 24 of 29 of my texts for this claim, joined; the theorem stands in the last. Conditions: none beyond the statement's. -/
import Derived.Test.YtiegkjimpclmaaaGreatDoorMFnRecordsx21
namespace Go.Proofs.YtiegkjimpclmaaaGreatDoor.P
open Go.RowKit Go.Proofs.YtiegkjimpclmaaaGreatDoorW.PrintWords Go.Proofs.YtiegkjimpclmaaaGreatDoorW.PrintLast Go.Proofs.YtiegkjimpclmaaaGreatDoorW.PrintMore
attribute [local go_sem] max2_int min2_int max_two min_two max_three min_three max_four min_four
set_option linter.unusedVariables false
set_option linter.unusedSimpArgs false
mutual
def spec_ReadData.j2 : Nat → Int → ByteArray → ByteArray → Option (ByteArray × Bool)
 | 0, _, _, _ => none
 | k + 1, x0, x1, x6 => (spec_l3Bytes.f k x0 x6).bind fun bt197 => (if bt197.2 = true then (if bt197.1.toList = x1.toList then (some (x6, true)) else (some ((⟨#[]⟩ : ByteArray), false))) else (some ((⟨#[]⟩ : ByteArray), false)))
def spec_ReadData.l0 : Nat → Int → ByteArray → ByteArray → Int → Option (ByteArray × Bool)
 | 0, _, _, _, _ => none
 | k + 1, x0, x1, x6, x7 => if x7 < (x1.size : Int) then (if x7 > 0 then (if x6.size + 1 ≤ 9223372036854775807 then (if 0 ≤ x7 then ((spec_l1Num.f k (wrap64 (bt x1 x7))).bind fun t189 => (if (x6 ++ (⟨#[46]⟩ : ByteArray)).size + t189.size ≤ 9223372036854775807 then (spec_ReadData.l0 k x0 x1 ((x6 ++ (⟨#[46]⟩ : ByteArray)) ++ t189) (wrap64 (x7 + 1))) else (none))) else (none)) else (none)) else (if 0 ≤ x7 then ((spec_l1Num.f k (wrap64 (bt x1 x7))).bind fun t190 => (if x6.size + t190.size ≤ 9223372036854775807 then (spec_ReadData.l0 k x0 x1 (x6 ++ t190) (wrap64 (x7 + 1))) else (none))) else (none))) else (spec_ReadData.j2 k x0 x1 x6)
def spec_ReadData.j1 : Nat → Int → ByteArray → ByteArray → Int → Bool → Option (ByteArray × Bool)
 | 0, _, _, _, _, _ => none
 | k + 1, x0, x1, x6, x13, x33 => if x33 = true then ((spec_l3Name.f k x1).bind fun t191 => (spec_ReadData.j2 k x0 x1 t191)) else (if x13 = 6 then (if (x1.size : Int) = 4 then ((spec_l3Read.f k x1).bind fun t192 => ((spec_l1Num.f k t192).bind fun t193 => (spec_ReadData.j2 k x0 x1 t193))) else (spec_ReadData.j2 k x0 x1 x6)) else (if x13 = 15 then (if (x1.size : Int) > 2 then (if 0 ≤ 2 then (if 2 ≤ (x1.size : Int) then ((spec_l3Read.f k (x1.extract 0 2)).bind fun t194 => ((spec_l1Num.f k t194).bind fun t195 => (if t195.size + 1 ≤ 9223372036854775807 then ((spec_l3Name.f k (x1.extract 2 x1.size)).bind fun t196 => (if (t195 ++ (⟨#[32]⟩ : ByteArray)).size + t196.size ≤ 9223372036854775807 then (spec_ReadData.j2 k x0 x1 ((t195 ++ (⟨#[32]⟩ : ByteArray)) ++ t196)) else (none))) else (none)))) else (none)) else (none)) else (spec_ReadData.j2 k x0 x1 x6)) else (if x13 = 16 then (if (x1.size : Int) > 0 then (if 1 ≤ (x1.size : Int) then (spec_ReadData.j2 k x0 x1 (x1.extract 1 x1.size)) else (none)) else (spec_ReadData.j2 k x0 x1 x6)) else (spec_ReadData.j2 k x0 x1 x6))))
end
def spec_ReadData.f (k : Nat) (a0 : Int) (a1 : ByteArray) : Option (ByteArray × Bool) := if (a1.size : Int) > 600 then (some ((⟨#[]⟩ : ByteArray), false)) else (if a0 = 1 then (spec_ReadData.l0 k a0 a1 (⟨#[]⟩ : ByteArray) 0) else (if a0 = 2 then (spec_ReadData.j1 k a0 a1 (⟨#[]⟩ : ByteArray) a0 (a0 == 2)) else (spec_ReadData.j1 k a0 a1 (⟨#[]⟩ : ByteArray) a0 (a0 == 5))))
def spec_ReadData.T20 : Bool × List (List Nat × List Nat) := (true, [([], []), ([0], [0]), ([1], [1]), ([2, 2], [2]), ([3], [3]), ([], []), ([5], [5]), ([6, 3], [6]), ([4, 7], [4, 7]), ([8, 7, 0, 1, 2, 3, 4, 5, 6, 7, 8], [8])])
def spec_ReadData.B20 : List Nat := [0, 1, 3, 7, 15, 0, 32, 111, 255, 511]
theorem spec_ReadData.tab20 : rtab .any (opsOf Tryz.f10 20) = spec_ReadData.T20 := by kernel_rfl
theorem spec_ReadData.bits20 : waitsOk spec_ReadData.T20.2 spec_ReadData.B20 = true := by kernel_rfl
set_option maxHeartbeats 8000000 in
set_option maxRecDepth 100000 in
theorem spec_ReadData.calls (k : Nat) (a0 : Int) (a1 : ByteArray) (r1 : ByteArray) (r2 : Bool) (w : World) (h : spec_ReadData.f k a0 a1 = some (r1, r2)) :
 Calls Tryz.prog 10 #[.int .i64 a0, .string a1] w fun e w' => e = .returned (.tuple #[.string r1, .bool r2]) ∧ Below w.heap.size w w' := by
 have HB := a0_ (Below.refl w.heap.size w)
 have H := h
 clear h
 unfold spec_ReadData.f at H
 by_cases c3 : (a1.size : Int) > 600
 case pos =>
  rw [if_pos c3] at H
  have c3b0 := decide_eq_true c3
  have c3b1 : decide (600 < a1.size) = true := decide_eq_true (by omega)
  clear c3
  simp only [Option.some.injEq, Prod.mk.injEq] at H
  obtain ⟨rfl, rfl⟩ := H
  go_enter Tryz.func10, Tryz.ntmps10
  go_wp2
  go_ret2
  exact ⟨rr_, bq0_⟩
 rw [if_neg c3] at H
 have c3b0 := decide_eq_false c3
 have c3b1 : decide (600 < a1.size) = false := decide_eq_false (by omega)
 clear c3
 have HC4 := a0_ H
 clear H
 go_enter Tryz.func10, Tryz.ntmps10
 go_upto_block 0 with (fail)
 go_cut [6] (fun v6 wc => ∃ (kq : Nat) (x6_3 : ByteArray), v6 = .string x6_3 ∧ Aside0 (spec_ReadData.j2 kq a0 a1 x6_3 = some (r1, r2)) ∧ Aside0 (kq ≤ k) ∧ Aside0 (Below w.heap.size w wc))
 case first =>
  have H := HC4.out
  clear HC4
  by_cases c5 : a0 = 1
  case pos =>
   rw [if_pos c5] at H
   have c5b0 := beq_iff_eq.mpr c5
   have c5b1 := bne_eq_false_iff_eq.mpr c5
   clear c5
   (first | rw [c5b0] | (simp only [i64_w, i32_w]; rw [c5b0]) | skip)
   have H' := a0_ H
   clear H
   go_wp2
   go_loopg [6, 7] k (fun kq v6 v7 w' => ∃ (x6_1 : ByteArray) (x7_1 : Int), v6 = .string x6_1 ∧ v7 = .int .i64 x7_1 ∧ Aside0 (spec_ReadData.l0 kq a0 a1 x6_1 x7_1 = some (r1, r2)) ∧ Aside0 (kq ≤ k) ∧ Aside0 (Below w.heap.size w w'))
   case atStart => exact ⟨((⟨#[]⟩ : ByteArray)), (0), rs_, rs_, H', ⟨Nat.le_refl _⟩, ⟨bq0_⟩⟩
   case round =>
    clear H'
    try clear c3
    try clear c3b0
    try clear c3b1
    try clear c5
    try clear c5b0
    try clear c5b1
    obtain ⟨x6_1, x7_1, rfl, rfl, HA, HK1, HB⟩ := hrel
    cases gk with
    | zero => exact absurd HA.out (by simp [spec_ReadData.l0])
    | succ k1 =>
     have H := HA.out
     clear HA
     simp only [spec_ReadData.l0] at H
     by_cases c6 : x7_1 < (a1.size : Int)
     case neg =>
      rw [if_neg c6] at H
      have c6b0 := decide_eq_false c6
      clear c6
      have H' := a0_ H
      clear H
      go_wp2
      go_meet
      case rel => exact ⟨_, (x6_1), rs_, H', ⟨by have := HK1.out; first | omega | exact Nat.le_refl _⟩, ⟨bq0_⟩⟩
     rw [if_pos c6] at H
     have c6b0 := decide_eq_true c6
     clear c6
     by_cases c7 : x7_1 > 0
     case neg =>
      rw [if_neg c7] at H
      have c7b0 := decide_eq_false c7
      clear c7
      by_cases c14 : 0 ≤ x7_1
      case neg =>
       rw [if_neg c14] at H
       exact absurd H (by simp)
      rw [if_pos c14] at H
      have c14b0 := decide_eq_true c14
      clear c14
      obtain ⟨t190, A160, H⟩ := Option.bind_eq_some_iff.mp H
      have A16 := a0_ A160
      clear A160
      by_cases c17 : x6_1.size + t190.size ≤ 9223372036854775807
      case neg =>
       rw [if_neg c17] at H
       exact absurd H (by simp)
      rw [if_pos c17] at H
      have c17b0 := eq_true c17
      have c17b1 := decide_eq_true c17
      try have c17b2 : (9223372036854775807 < x6_1.size + t190.size) = False := eq_false (Nat.not_lt.2 c17)
      have H' := a0_ H
      clear H
      have p15 : 0 ≤ (x7_1 : Int) := dec_
      have q15 : x7_1 < (a1.size : Int) := dec_
      have hx15 := bt_at a1 x7_1
      replace p15 := eq_true p15
      replace q15 := eq_true q15
      go_wp2_with (first | ((with_reducible refine gate_callee (f := 52) rfl ?_); refine goesL_ (some 31) rfl rfl Tryz.func52 (by kernel_rfl) rfl #[.int .i64 (wrap64 (bt a1 x7_1))] rfl argsS_ ?_; (with_reducible refine (spec_l1Num.calls k1 (wrap64 (bt a1 x7_1)) t190 _ A16.out).mono ?_); rintro e w18 ⟨rfl, hb⟩; refine ⟨_, rfl, ?_⟩; replace HB := a0_ (below_step bq0_ hb); clear hb))
      go_roundg k1
      case measure => have := HK1.out; omega
      case rel => exact ⟨(x6_1 ++ t190), (wrap64 (x7_1 + 1)), rs_, rs_, H', ⟨by have := HK1.out; omega⟩, ⟨bq0_⟩⟩
     rw [if_pos c7] at H
     have c7b0 := decide_eq_true c7
     clear c7
     by_cases c8 : x6_1.size + 1 ≤ 9223372036854775807
     case neg =>
      rw [if_neg c8] at H
      exact absurd H (by simp)
     rw [if_pos c8] at H
     have c8b0 := eq_true c8
     have c8b1 := decide_eq_true c8
     try have c8b2 : (9223372036854775807 < x6_1.size + 1) = False := eq_false (Nat.not_lt.2 c8)
     by_cases c9 : 0 ≤ x7_1
     case neg =>
      rw [if_neg c9] at H
      exact absurd H (by simp)
     rw [if_pos c9] at H
     have c9b0 := decide_eq_true c9
     clear c9
     obtain ⟨t189, A110, H⟩ := Option.bind_eq_some_iff.mp H
     have A11 := a0_ A110
     clear A110
     by_cases c12 : (x6_1 ++ (⟨#[46]⟩ : ByteArray)).size + t189.size ≤ 9223372036854775807
     case neg =>
      rw [if_neg c12] at H
      exact absurd H (by simp)
     rw [if_pos c12] at H
     have c12b0 := eq_true c12
     have c12b1 := decide_eq_true c12
     have c12b3 : (9223372036854775807 < x6_1.size + 1 + t189.size) = False := eq_false (by have e_ := c12; rw [ByteArray.size_append, show (⟨#[46]⟩ : ByteArray).size = 1 from rfl] at e_; omega); try have c12b2 : (9223372036854775807 < (x6_1 ++ (⟨#[46]⟩ : ByteArray)).size + t189.size) = False := eq_false (Nat.not_lt.2 c12)
     have H' := a0_ H
     clear H
     have p10 : 0 ≤ (x7_1 : Int) := dec_
     have q10 : x7_1 < (a1.size : Int) := dec_
     have hx10 := bt_at a1 x7_1
     replace p10 := eq_true p10
     replace q10 := eq_true q10
     go_wp2_with (first | ((with_reducible refine gate_callee (f := 52) rfl ?_); refine goesL_ (some 31) rfl rfl Tryz.func52 (by kernel_rfl) rfl #[.int .i64 (wrap64 (bt a1 x7_1))] rfl argsS_ ?_; (with_reducible refine (spec_l1Num.calls k1 (wrap64 (bt a1 x7_1)) t189 _ A11.out).mono ?_); rintro e w13 ⟨rfl, hb⟩; refine ⟨_, rfl, ?_⟩; replace HB := a0_ (below_step bq0_ hb); clear hb))
     go_roundg k1
     case measure => have := HK1.out; omega
     case rel => exact ⟨((x6_1 ++ (⟨#[46]⟩ : ByteArray)) ++ t189), (wrap64 (x7_1 + 1)), rs_, rs_, H', ⟨by have := HK1.out; omega⟩, ⟨bq0_⟩⟩
  rw [if_neg c5] at H
  have c5b0 := beq_eq_false_iff_ne.mpr c5
  have c5b1 := bne_iff_ne.mpr c5
  (first | rw [c5b0] | (simp only [i64_w, i32_w]; rw [c5b0]) | skip)
  have HC19 := a0_ H
  clear H
  go_upto_if 33 with (fail)
  go_cut [33] (fun v33 wc => ∃ (kq : Nat) (x33_18 : Bool), v33 = .bool x33_18 ∧ Aside0 (spec_ReadData.j1 kq a0 a1 (⟨#[]⟩ : ByteArray) a0 x33_18 = some (r1, r2)) ∧ Aside0 (kq ≤ k) ∧ Aside0 (Below w.heap.size w wc))
  case first =>
   have H := HC19.out
   clear HC19
   by_cases c20 : a0 = 2
   case neg =>
    rw [if_neg c20] at H
    have c20b0 := beq_eq_false_iff_ne.mpr c20
    have c20b1 := bne_iff_ne.mpr c20
    (first | rw [c20b0] | (simp only [i64_w, i32_w]; rw [c20b0]) | skip)
    have H' := a0_ H
    clear H
    go_wp2
    go_meet
    case rel => exact ⟨_, ((a0 == 5)), rs_, H', ⟨by first | omega | exact Nat.le_refl _⟩, ⟨bq0_⟩⟩
   rw [if_pos c20] at H
   have c20b0 := beq_iff_eq.mpr c20
   have c20b1 := bne_eq_false_iff_eq.mpr c20
   clear c20
   (first | rw [c20b0] | (simp only [i64_w, i32_w]; rw [c20b0]) | skip)
   have H' := a0_ H
   clear H
   go_wp2
   go_meet
   case rel => exact ⟨_, ((a0 == 2)), rs_, H', ⟨by first | omega | exact Nat.le_refl _⟩, ⟨bq0_⟩⟩
  case rest =>
   clear HC19
   try clear c3
   try clear c3b0
   try clear c3b1
   try clear c5
   try clear c5b0
   try clear c5b1
   obtain ⟨kq, x33_18, rfl, HA, HJ18, HB⟩ := hcut
   cases kq with
   | zero => exact absurd HA.out (by simp [spec_ReadData.j1])
   | succ kj18 =>
    have H := HA.out
    clear HA
    simp only [spec_ReadData.j1] at H
    by_cases c21 : x33_18 = true
    case pos =>
     subst c21
     rw [if_pos rfl] at H
     obtain ⟨t191, A220, H⟩ := Option.bind_eq_some_iff.mp H
     have A22 := a0_ A220
     clear A220
     have H' := a0_ H
     clear H
     go_wp2_with (first | ((with_reducible refine gate_callee (f := 53) rfl ?_); refine goesL_ (some 37) rfl rfl Tryz.func53 (by kernel_rfl) rfl #[.string a1] rfl argsS_ ?_; (with_reducible refine (spec_l3Name.calls kj18 a1 t191 _ A22.out).mono ?_); rintro e w23 ⟨rfl, hb⟩; refine ⟨_, rfl, ?_⟩; replace HB := a0_ (below_step bq0_ hb); clear hb))
     go_meet
     case rel => exact ⟨_, (t191), rs_, H', ⟨by have := HJ18.out; first | omega | exact Nat.le_refl _⟩, ⟨bq0_⟩⟩
    replace c21 := Bool.eq_false_iff.mpr c21
    subst c21
    rw [if_neg (show ¬ (false = true) by decide)] at H
    by_cases c24 : a0 = 6
    case pos =>
     rw [if_pos c24] at H
     have c24b0 := beq_iff_eq.mpr c24
     have c24b1 := bne_eq_false_iff_eq.mpr c24
     clear c24
     by_cases c25 : (a1.size : Int) = 4
     case neg =>
      rw [if_neg c25] at H
      have c25b0 := beq_eq_false_iff_ne.mpr c25
      have c25b1 := bne_iff_ne.mpr c25
      have H' := a0_ H
      clear H
      go_wp2
      go_meet
      case rel => exact ⟨_, ((⟨#[]⟩ : ByteArray)), rs_, H', ⟨by have := HJ18.out; first | omega | exact Nat.le_refl _⟩, ⟨bq0_⟩⟩
     rw [if_pos c25] at H
     have c25b0 := beq_iff_eq.mpr c25
     have c25b1 := bne_eq_false_iff_eq.mpr c25
     clear c25
     obtain ⟨t192, A260, H⟩ := Option.bind_eq_some_iff.mp H
     have A26 := a0_ A260
     clear A260
     obtain ⟨t193, A270, H⟩ := Option.bind_eq_some_iff.mp H
     have A27 := a0_ A270
     clear A270
     have H' := a0_ H
     clear H
     go_wp2_with (first | ((with_reducible refine gate_callee (f := 54) rfl ?_); refine goesL_ (some 44) rfl rfl Tryz.func54 (by kernel_rfl) rfl #[.string a1] rfl argsS_ ?_; (with_reducible refine (spec_l3Read.calls kj18 a1 t192 _ A26.out).mono ?_); rintro e w' ⟨rfl, ⟨nd, rfl⟩⟩; refine ⟨_, rfl, ?_⟩) | ((with_reducible refine gate_callee (f := 52) rfl ?_); refine goesL_ (some 45) rfl rfl Tryz.func52 (by kernel_rfl) rfl #[.int .i64 t192] rfl argsS_ ?_; (with_reducible refine (spec_l1Num.calls kj18 t192 t193 _ A27.out).mono ?_); rintro e w28 ⟨rfl, hb⟩; refine ⟨_, rfl, ?_⟩; replace HB := a0_ (below_step bq0_ hb); clear hb))
     go_meet
     case rel => exact ⟨_, (t193), rs_, H', ⟨by have := HJ18.out; first | omega | exact Nat.le_refl _⟩, ⟨bq0_⟩⟩
    rw [if_neg c24] at H
    have c24b0 := beq_eq_false_iff_ne.mpr c24
    have c24b1 := bne_iff_ne.mpr c24
    by_cases c29 : a0 = 15
    case neg =>
     rw [if_neg c29] at H
     have c29b0 := beq_eq_false_iff_ne.mpr c29
     have c29b1 := bne_iff_ne.mpr c29
     by_cases c42 : a0 = 16
     case neg =>
      rw [if_neg c42] at H
      have c42b0 := beq_eq_false_iff_ne.mpr c42
      have c42b1 := bne_iff_ne.mpr c42
      have H' := a0_ H
      clear H
      go_wp2
      go_meet
      case rel => exact ⟨_, ((⟨#[]⟩ : ByteArray)), rs_, H', ⟨by have := HJ18.out; first | omega | exact Nat.le_refl _⟩, ⟨bq0_⟩⟩
     rw [if_pos c42] at H
     have c42b0 := beq_iff_eq.mpr c42
     have c42b1 := bne_eq_false_iff_eq.mpr c42
     clear c42
     by_cases c43 : (a1.size : Int) > 0
     case neg =>
      rw [if_neg c43] at H
      have c43b0 := decide_eq_false c43
      have c43b1 : decide (0 < a1.size) = false := decide_eq_false (by omega)
      clear c43
      have H' := a0_ H
      clear H
      go_wp2
      go_meet
      case rel => exact ⟨_, ((⟨#[]⟩ : ByteArray)), rs_, H', ⟨by have := HJ18.out; first | omega | exact Nat.le_refl _⟩, ⟨bq0_⟩⟩
     rw [if_pos c43] at H
     have c43b0 := decide_eq_true c43
     have c43b1 : decide (0 < a1.size) = true := decide_eq_true (by omega)
     clear c43
     by_cases c44 : 1 ≤ (a1.size : Int)
     case neg =>
      rw [if_neg c44] at H
      exact absurd H (by simp)
     rw [if_pos c44] at H
     have c44b0 := eq_true c44
     have c44b1 := decide_eq_true c44
     clear c44
     have H' := a0_ H
     clear H
     go_wp2
     go_meet
     case rel => exact ⟨_, (a1.extract 1 a1.size), rs_, H', ⟨by have := HJ18.out; first | omega | exact Nat.le_refl _⟩, ⟨bq0_⟩⟩
    rw [if_pos c29] at H
    have c29b0 := beq_iff_eq.mpr c29
    have c29b1 := bne_eq_false_iff_eq.mpr c29
    clear c29
    by_cases c30 : (a1.size : Int) > 2
    case neg =>
     rw [if_neg c30] at H
     have c30b0 := decide_eq_false c30
     have c30b1 : decide (2 < a1.size) = false := decide_eq_false (by omega)
     clear c30
     have H' := a0_ H
     clear H
     go_wp2
     go_meet
     case rel => exact ⟨_, ((⟨#[]⟩ : ByteArray)), rs_, H', ⟨by have := HJ18.out; first | omega | exact Nat.le_refl _⟩, ⟨bq0_⟩⟩
    rw [if_pos c30] at H
    have c30b0 := decide_eq_true c30
    have c30b1 : decide (2 < a1.size) = true := decide_eq_true (by omega)
    clear c30
    by_cases c31 : 0 ≤ 2
    case neg =>
     rw [if_neg c31] at H
     exact absurd H (by simp)
    rw [if_pos c31] at H
    have c31b0 := eq_true c31
    have c31b1 := decide_eq_true c31
    clear c31
    by_cases c32 : 2 ≤ (a1.size : Int)
    case neg =>
     rw [if_neg c32] at H
     exact absurd H (by simp)
    rw [if_pos c32] at H
    have c32b0 := eq_true c32
    have c32b1 := decide_eq_true c32
    clear c32
    obtain ⟨t194, A330, H⟩ := Option.bind_eq_some_iff.mp H
    have A33 := a0_ A330
    clear A330
    obtain ⟨t195, A340, H⟩ := Option.bind_eq_some_iff.mp H
    have A34 := a0_ A340
    clear A340
    by_cases c35 : t195.size + 1 ≤ 9223372036854775807
    case neg =>
     rw [if_neg c35] at H
     exact absurd H (by simp)
    rw [if_pos c35] at H
    have c35b0 := eq_true c35
    have c35b1 := decide_eq_true c35
    try have c35b2 : (9223372036854775807 < t195.size + 1) = False := eq_false (Nat.not_lt.2 c35)
    have c36b0 := eq_true (dec_ : 2 ≤ (a1.size : Int))
    obtain ⟨t196, A370, H⟩ := Option.bind_eq_some_iff.mp H
    have A37 := a0_ A370
    clear A370
    by_cases c38 : (t195 ++ (⟨#[32]⟩ : ByteArray)).size + t196.size ≤ 9223372036854775807
    case neg =>
     rw [if_neg c38] at H
     exact absurd H (by simp)
    rw [if_pos c38] at H
    have c38b0 := eq_true c38
    have c38b1 := decide_eq_true c38
    have c38b3 : (9223372036854775807 < t195.size + 1 + t196.size) = False := eq_false (by have e_ := c38; rw [ByteArray.size_append, show (⟨#[32]⟩ : ByteArray).size = 1 from rfl] at e_; omega); try have c38b2 : (9223372036854775807 < (t195 ++ (⟨#[32]⟩ : ByteArray)).size + t196.size) = False := eq_false (Nat.not_lt.2 c38)
    have H' := a0_ H
    clear H
    try go_wp2
    replace HB := a0_ (below_drew1 HB.out)
    refine start_ (n := 10) (S := fun w' => True) (ds := []) #[false, false, false, false, false, false, false, false, false, false] (by kernel_rfl) rfl rfl trivial (fun hHeld => ?_); refine with_tabW spec_ReadData.tab20 spec_ReadData.bits20 (fun HT_ HW_ => ?_)
    generalize wc.drew = w39 at HB hHeld ⊢
    refine pureS_ 0 (some 51) ?_
    refine pureS_ 1 (some 52) ?_
    refine pureS_ 5 (some 56) ?_
    refine pureS_ 6 (some 57) ?_
    refine oneS_ 2 (some 53) (fun K hK => ?_)
    refine goes_ Tryz.func54 (by kernel_rfl) rfl #[.string (a1.extract 0 2)] (by rfl) rfl rfl argsS_ ?_
    with_reducible refine (spec_l3Read.calls kj18 (a1.extract 0 2) t194 _ A33.out).mono ?_
    rintro e w' ⟨rfl, ⟨nd, rfl⟩⟩
    refine ⟨_, rfl, ?_⟩
    refine hK.out _ _ trivial (fun hHeld => ?_)
    clear hK K
    refine normS_ ?_
    refine oneS_ 3 (some 54) (fun K hK => ?_)
    refine goes_ Tryz.func52 (by kernel_rfl) rfl #[.int .i64 t194] (by rfl) rfl rfl argsS_ ?_
    with_reducible refine (spec_l1Num.calls kj18 t194 t195 _ A34.out).mono ?_
    rintro e w40 ⟨rfl, hb⟩
    refine ⟨_, rfl, ?_⟩
    replace HB := a0_ (below_step bq0_ hb)
    (try clear hb)
    (try clear hb2)
    (try clear hk)
    (try clear hi)
    refine hK.out _ _ trivial (fun hHeld => ?_)
    clear hK K
    refine normS_ ?_
    refine pureS_ 4 (some 55) ?_
    refine oneS_ 7 (some 58) (fun K hK => ?_)
    refine goes_ Tryz.func53 (by kernel_rfl) rfl #[.string (a1.extract 2 a1.size)] (by rfl) rfl rfl argsS_ ?_
    with_reducible refine (spec_l3Name.calls kj18 (a1.extract 2 a1.size) t196 _ A37.out).mono ?_
    rintro e w41 ⟨rfl, hb⟩
    refine ⟨_, rfl, ?_⟩
    replace HB := a0_ (below_step bq0_ hb)
    (try clear hb)
    (try clear hb2)
    (try clear hk)
    (try clear hi)
    refine hK.out _ _ trivial (fun hHeld => ?_)
    clear hK K
    refine normS_ ?_
    refine pureS_ 8 (some 59) ?_
    refine pureS_ 9 (some 6) ?_
    refine done_ (done_of HT_.out (by kernel_rfl)) ?_
    try go_wp2
    go_meet
    case rel => exact ⟨_, ((t195 ++ (⟨#[32]⟩ : ByteArray)) ++ t196), rs_, H', ⟨by have := HJ18.out; first | omega | exact Nat.le_refl _⟩, ⟨bq0_⟩⟩
 case rest =>
  clear HC4
  try clear c3
  try clear c3b0
  try clear c3b1
  try clear c5
  try clear c5b0
  try clear c5b1
  obtain ⟨kq, x6_3, rfl, HA, HJ3, HB⟩ := hcut
  cases kq with
  | zero => exact absurd HA.out (by simp [spec_ReadData.j2])
  | succ kj3 =>
   have H := HA.out
   clear HA
   simp only [spec_ReadData.j2] at H
   obtain ⟨⟨t197, t198⟩, A450, H⟩ := Option.bind_eq_some_iff.mp H
   have A45 := a0_ A450
   clear A450
   by_cases c46 : t198 = true
   case neg =>
    replace c46 := Bool.eq_false_iff.mpr c46
    subst c46
    rw [if_neg (show ¬ (false = true) by decide)] at H
    simp only [Option.some.injEq, Prod.mk.injEq] at H
    obtain ⟨rfl, rfl⟩ := H
    go_wp2_with (first | ((with_reducible refine gate_callee (f := 55) rfl ?_); refine goesL_ (some 70) rfl rfl Tryz.func55 (by kernel_rfl) rfl #[.int .i64 a0, .string x6_3] rfl argsS_ ?_; (with_reducible refine (spec_l3Bytes.calls kj3 a0 x6_3 t197 false _ A45.out).mono ?_); rintro e w50 ⟨rfl, hb⟩; refine ⟨_, rfl, ?_⟩; replace HB := a0_ (below_step bq0_ hb); clear hb))
    go_ret2
    exact ⟨rr_, bq0_⟩
   subst c46
   rw [if_pos rfl] at H
   by_cases c47 : t197.toList = a1.toList
   case neg =>
    rw [if_neg c47] at H
    have c47b0 := beq_eq_false_iff_ne.mpr c47
    have c47b1 := bne_iff_ne.mpr c47
    simp only [Option.some.injEq, Prod.mk.injEq] at H
    obtain ⟨rfl, rfl⟩ := H
    go_wp2_with (first | ((with_reducible refine gate_callee (f := 55) rfl ?_); refine goesL_ (some 70) rfl rfl Tryz.func55 (by kernel_rfl) rfl #[.int .i64 a0, .string x6_3] rfl argsS_ ?_; (with_reducible refine (spec_l3Bytes.calls kj3 a0 x6_3 t197 true _ A45.out).mono ?_); rintro e w49 ⟨rfl, hb⟩; refine ⟨_, rfl, ?_⟩; replace HB := a0_ (below_step bq0_ hb); clear hb))
    go_ret2
    exact ⟨rr_, bq0_⟩
   rw [if_pos c47] at H
   have c47b0 := beq_iff_eq.mpr c47
   have c47b1 := bne_eq_false_iff_eq.mpr c47
   clear c47
   simp only [Option.some.injEq, Prod.mk.injEq] at H
   obtain ⟨rfl, rfl⟩ := H
   go_wp2_with (first | ((with_reducible refine gate_callee (f := 55) rfl ?_); refine goesL_ (some 70) rfl rfl Tryz.func55 (by kernel_rfl) rfl #[.int .i64 a0, .string x6_3] rfl argsS_ ?_; (with_reducible refine (spec_l3Bytes.calls kj3 a0 x6_3 t197 true _ A45.out).mono ?_); rintro e w48 ⟨rfl, hb⟩; refine ⟨_, rfl, ?_⟩; replace HB := a0_ (below_step bq0_ hb); clear hb))
   go_ret2
   exact ⟨rr_, bq0_⟩
end Go.Proofs.YtiegkjimpclmaaaGreatDoor.P
namespace Go.Proofs.YtiegkjimpclmaaaGreatDoor.P
open Go.RowKit Go.Proofs.YtiegkjimpclmaaaGreatDoorW.PrintWords Go.Proofs.YtiegkjimpclmaaaGreatDoorW.PrintLast Go.Proofs.YtiegkjimpclmaaaGreatDoorW.PrintMore
set_option linter.unusedVariables false
set_option linter.unusedSimpArgs false
def itoaB (n : Int) : ByteArray := ⟨(Lib.itoa n).toArray⟩
def partsI (b : ByteArray) : List ByteArray := (bytesOf b).map itoaB
def preI (k : Nat) (kind : Int) (b : ByteArray) : Option ByteArray :=
 if kind = 1 ∧ b.size = 4 then some (mkB (joinL (partsI b)))
 else (if kind = 2 ∨ kind = 5 then impl_nameIn.f k b
 else (if kind = 6 ∧ b.size = 4 then (impl_number.f k b).bind fun n => strconv_Itoa.f n
 else (if kind = 15 ∧ 2 < b.size then (impl_number.f k (b.extract 0 2)).bind fun n => (strconv_Itoa.f n).bind fun t => (impl_nameIn.f k (b.extract 2 b.size)).bind fun s => (if t.size + s.size ≤ 1000000 then some ((t ++ (⟨#[32]⟩ : ByteArray)) ++ s) else none)
 else (if kind = 16 ∧ 0 < b.size then some (b.extract 1 b.size) else some (⟨#[]⟩ : ByteArray)))))
def finI (k : Nat) (kind : Int) (b d : ByteArray) : Option (ByteArray × Bool) := (impl_DataBytes.f k kind d).bind fun q => some (if q.2 = true ∧ q.1.toList = b.toList then (d, true) else badD)
def impl_ReadData.f (k : Nat) (kind : Int) (b : ByteArray) : Option (ByteArray × Bool) := if 100 < b.size then some badD else (preI k kind b).bind fun d => finI k kind b d
theorem preI.mono (a0 : Int) (a1 : ByteArray) (k : Nat) : LeO (preI k a0 a1) (preI (k + 1) a0 a1) := by
 unfold preI
 exact LeO.ite (LeO.refl _) (LeO.ite (impl_nameIn.mono _ _) (LeO.ite (LeO.bind (impl_number.mono _ _) fun _ => LeO.refl _) (LeO.ite (LeO.bind (impl_number.mono _ _) fun _ => LeO.bind (LeO.refl _) fun _ => LeO.bind (impl_nameIn.mono _ _) fun _ => LeO.refl _) (LeO.refl _))))
theorem fin_cases {k : Nat} {kind : Int} {b d r1 : ByteArray} {r2 : Bool} (h : finI k kind b d = some (r1, r2)) : ∃ q1 q2, impl_DataBytes.f k kind d = some (q1, q2) ∧
 ((q2 = false ∧ r1 = (⟨#[]⟩ : ByteArray) ∧ r2 = false) ∨ (q2 = true ∧ (q1.toList == b.toList) = false ∧ (q1.toList != b.toList) = true ∧ r1 = (⟨#[]⟩ : ByteArray) ∧ r2 = false) ∨ (q2 = true ∧ (q1.toList == b.toList) = true ∧ (q1.toList != b.toList) = false ∧ r1 = d ∧ r2 = true)) := by
 unfold finI at h
 obtain ⟨⟨q1, q2⟩, hq, h⟩ := Option.bind_eq_some_iff.mp h
 refine ⟨q1, q2, hq, ?_⟩
 replace h : (if q2 = true ∧ q1.toList = b.toList then (d, true) else badD) = (r1, r2) := Option.some.inj h
 cases q2 with
 | false =>
  rw [if_neg (fun e => by cases e.1)] at h
  obtain ⟨rfl, rfl⟩ := Prod.mk.inj h
  exact Or.inl ⟨rfl, rfl, rfl⟩
 | true =>
  by_cases e : q1.toList = b.toList
  · rw [if_pos ⟨rfl, e⟩] at h
    obtain ⟨rfl, rfl⟩ := Prod.mk.inj h
    exact Or.inr (Or.inr ⟨rfl, beq_iff_eq.mpr e, bne_eq_false_iff_eq.mpr e, rfl, rfl⟩)
  · rw [if_neg (fun x => e x.2)] at h
    obtain ⟨rfl, rfl⟩ := Prod.mk.inj h
    exact Or.inr (Or.inl ⟨rfl, beq_eq_false_iff_ne.mpr e, bne_iff_ne.mpr e, rfl, rfl⟩)
set_option maxHeartbeats 4000000 in
theorem rd_name (k : Nat) (kind : Int) (hk : kind = 2 ∨ kind = 5) (b d r1 : ByteArray) (r2 : Bool) (w : World) (hs : b.size ≤ 100) (hn : impl_nameIn.f k b = some d) (h : finI k kind b d = some (r1, r2)) (hv : Vars w) :
 Calls Tryz.prog 11 #[.int .i64 kind, .string b] w fun e w' => e = .returned (.tuple #[.string r1, .bool r2]) ∧ Below w.heap.size w w' := by
 obtain ⟨q1, q2, hq, hc⟩ := fin_cases h
 have nc := fun W => impl_nameIn.calls k b d W hn
 have dc := fun W (hb : Below w.heap.size w W) => impl_DataBytes.calls k kind d q1 q2 W hq (Vars.below hv hb)
 have e1 : decide (100 < b.size) = false := decide_eq_false (by omega)
 have e2 : decide ((100 : Int) < (b.size : Int)) = false := decide_eq_false (by omega)
 clear hv hn hq h hs
 rcases hk with rfl | rfl <;> rcases hc with ⟨rfl, rfl, rfl⟩ | ⟨rfl, c1, c2, rfl, rfl⟩ | ⟨rfl, c1, c2, rfl, rfl⟩ <;> (
  go_enter Tryz.func11, Tryz.ntmps11
  go_wp2_with (first | (go_at_call 58; refine (nc _).mono ?_; rintro e w1 ⟨rfl, hb⟩) | (go_at_call 31; refine (dc _ hb).mono ?_; rintro e w2 ⟨rfl, hb2⟩; have hb3 := below_then hb hb.size hb2))
  go_ret2
  exact ⟨rfl, hb3⟩)
set_option maxHeartbeats 4000000 in
theorem rd_serial (k : Nat) (b d r1 : ByteArray) (r2 : Bool) (n : Int) (w : World) (hs : b.size = 4) (hn : impl_number.f k b = some n) (hi : strconv_Itoa.f n = some d) (h : finI k 6 b d = some (r1, r2)) (hv : Vars w) :
 Calls Tryz.prog 11 #[.int .i64 6, .string b] w fun e w' => e = .returned (.tuple #[.string r1, .bool r2]) ∧ Below w.heap.size w w' := by
 obtain ⟨q1, q2, hq, hc⟩ := fin_cases h
 have nc := fun W => impl_number.calls k b n W hn
 have ic := fun W (hb : Below w.heap.size w W) => strconv_Itoa.calls n d W hi (Vars.below hv hb)
 have dc := fun W (hb : Below w.heap.size w W) => impl_DataBytes.calls k 6 d q1 q2 W hq (Vars.below hv hb)
 have e1 : decide (100 < b.size) = false := decide_eq_false (by omega)
 have e2 : decide ((100 : Int) < (b.size : Int)) = false := decide_eq_false (by omega)
 have e3 : ((b.size : Int) == 4) = true := beq_iff_eq.mpr (by omega)
 clear hv hn hq h hs
 rcases hc with ⟨rfl, rfl, rfl⟩ | ⟨rfl, c1, c2, rfl, rfl⟩ | ⟨rfl, c1, c2, rfl, rfl⟩ <;> (
  go_enter Tryz.func11, Tryz.ntmps11
  go_wp2_with (first | (go_at_call 59; refine (nc _).mono ?_; rintro e w0 ⟨rfl, hd⟩; have hb0 := hd.below) | (go_at_call 56; refine (ic _ hb0).mono ?_; rintro e w1 ⟨rfl, hb1⟩; have hb := below_then hb0 hb0.size hb1) | (go_at_call 31; refine (dc _ hb).mono ?_; rintro e w2 ⟨rfl, hb2⟩; have hb3 := below_then hb hb.size hb2))
  go_ret2
  exact ⟨rfl, hb3⟩)
set_option maxHeartbeats 4000000 in
theorem rd_text (k : Nat) (b r1 : ByteArray) (r2 : Bool) (w : World) (hs : b.size ≤ 100) (h0 : 0 < b.size) (h : finI k 16 b (b.extract 1 b.size) = some (r1, r2)) (hv : Vars w) :
 Calls Tryz.prog 11 #[.int .i64 16, .string b] w fun e w' => e = .returned (.tuple #[.string r1, .bool r2]) ∧ Below w.heap.size w w' := by
 obtain ⟨q1, q2, hq, hc⟩ := fin_cases h
 have dc := fun W (hb : Below w.heap.size w W) => impl_DataBytes.calls k 16 (b.extract 1 b.size) q1 q2 W hq (Vars.below hv hb)
 have e1 : decide (100 < b.size) = false := decide_eq_false (by omega)
 have e2 : decide ((100 : Int) < (b.size : Int)) = false := decide_eq_false (by omega)
 have e3 : decide (0 < (b.size : Int)) = true := decide_eq_true (by omega)
 have e4 : decide (0 < b.size) = true := decide_eq_true h0
 have e5 : (1 ≤ (b.size : Int)) = True := eq_true (by omega)
 have e6 : decide (1 ≤ (b.size : Int)) = true := decide_eq_true (by omega)
 clear hv hq h hs h0
 rcases hc with ⟨rfl, rfl, rfl⟩ | ⟨rfl, c1, c2, rfl, rfl⟩ | ⟨rfl, c1, c2, rfl, rfl⟩ <;> (
  go_enter Tryz.func11, Tryz.ntmps11
  go_wp2_with (go_at_call 31; refine (dc _ (Below.refl _ _)).mono ?_; rintro e w2 ⟨rfl, hb3⟩)
  go_ret2
  exact ⟨rfl, hb3⟩)
theorem rd_big (kind : Int) (b : ByteArray) (w : World) (hs : 100 < b.size) :
 Calls Tryz.prog 11 #[.int .i64 kind, .string b] w fun e w' => e = .returned (.tuple #[.string (⟨#[]⟩ : ByteArray), .bool false]) ∧ Below w.heap.size w w' := by
 have e1 : decide (100 < b.size) = true := decide_eq_true (by omega)
 have e2 : decide ((100 : Int) < (b.size : Int)) = true := decide_eq_true (by omega)
 clear hs
 go_enter Tryz.func11, Tryz.ntmps11
 go_wp2
 go_ret2
 exact ⟨rfl, Below.refl _ _⟩
set_option maxHeartbeats 4000000 in
theorem rd_none (k : Nat) (kind : Int) (b r1 : ByteArray) (r2 : Bool) (w : World) (hs : b.size ≤ 100) (k1 : ¬ (kind = 1 ∧ b.size = 4)) (k2 : ¬ (kind = 2 ∨ kind = 5)) (k6 : ¬ (kind = 6 ∧ b.size = 4)) (k15 : ¬ (kind = 15 ∧ 2 < b.size)) (k16 : ¬ (kind = 16 ∧ 0 < b.size)) (h : finI k kind b (⟨#[]⟩ : ByteArray) = some (r1, r2)) (hv : Vars w) :
 Calls Tryz.prog 11 #[.int .i64 kind, .string b] w fun e w' => e = .returned (.tuple #[.string r1, .bool r2]) ∧ Below w.heap.size w w' := by
 obtain ⟨q1, q2, hq, hc⟩ := fin_cases h
 have dc := fun W (hb : Below w.heap.size w W) => impl_DataBytes.calls k kind (⟨#[]⟩ : ByteArray) q1 q2 W hq (Vars.below hv hb)
 have e1 : decide (100 < b.size) = false := decide_eq_false (by omega)
 have e2 : decide ((100 : Int) < (b.size : Int)) = false := decide_eq_false (by omega)
 have n2 : (kind == 2) = false := beq_eq_false_iff_ne.mpr (by omega)
 have n5 : (kind == 5) = false := beq_eq_false_iff_ne.mpr (by omega)
 have case1 : (kind == 1) = false ∨ (kind == 1) = true ∧ ((b.size : Int) == 4) = false := by
  by_cases e : kind = 1
  · exact Or.inr ⟨beq_iff_eq.mpr e, beq_eq_false_iff_ne.mpr (by omega)⟩
  · exact Or.inl (beq_eq_false_iff_ne.mpr e)
 have case6 : (kind == 6) = false ∨ (kind == 6) = true ∧ ((b.size : Int) == 4) = false := by
  by_cases e : kind = 6
  · exact Or.inr ⟨beq_iff_eq.mpr e, beq_eq_false_iff_ne.mpr (by omega)⟩
  · exact Or.inl (beq_eq_false_iff_ne.mpr e)
 have case15 : (kind == 15) = false ∨ (kind == 15) = true ∧ decide (2 < b.size) = false ∧ decide (2 < (b.size : Int)) = false := by
  by_cases e : kind = 15
  · exact Or.inr ⟨beq_iff_eq.mpr e, decide_eq_false (by omega), decide_eq_false (by omega)⟩
  · exact Or.inl (beq_eq_false_iff_ne.mpr e)
 have case16 : (kind == 16) = false ∨ (kind == 16) = true ∧ decide (0 < b.size) = false ∧ decide (0 < (b.size : Int)) = false := by
  by_cases e : kind = 16
  · exact Or.inr ⟨beq_iff_eq.mpr e, decide_eq_false (by omega), decide_eq_false (by omega)⟩
  · exact Or.inl (beq_eq_false_iff_ne.mpr e)
 have hk : ((kind == 1) = false ∧ (kind == 6) = false ∧ (kind == 15) = false ∧ (kind == 16) = false) ∨ (kind = 1 ∧ ((b.size : Int) == 4) = false) ∨ (kind = 6 ∧ ((b.size : Int) == 4) = false) ∨ (kind = 15 ∧ decide (2 < b.size) = false ∧ decide (2 < (b.size : Int)) = false) ∨ (kind = 16 ∧ decide (0 < b.size) = false ∧ decide (0 < (b.size : Int)) = false) := by
  rcases case1 with a | a
  · rcases case6 with c | c
    · rcases case15 with d | d
      · rcases case16 with e | e
        · exact Or.inl ⟨a, c, d, e⟩
        · exact Or.inr (Or.inr (Or.inr (Or.inr ⟨eq_of_beq e.1, e.2⟩)))
      · exact Or.inr (Or.inr (Or.inr (Or.inl ⟨eq_of_beq d.1, d.2⟩)))
    · exact Or.inr (Or.inr (Or.inl ⟨eq_of_beq c.1, c.2⟩))
  · exact Or.inr (Or.inl ⟨eq_of_beq a.1, a.2⟩)
 clear hv hq h hs k1 k2 k6 k15 k16 case1 case6 case15 case16
 rcases hk with ⟨n1, n6, n15, n16⟩ | ⟨rfl, s1⟩ | ⟨rfl, s1⟩ | ⟨rfl, s1, s2⟩ | ⟨rfl, s1, s2⟩ <;> rcases hc with ⟨rfl, rfl, rfl⟩ | ⟨rfl, c1, c2, rfl, rfl⟩ | ⟨rfl, c1, c2, rfl, rfl⟩ <;> (
  go_enter Tryz.func11, Tryz.ntmps11
  go_wp2_with (go_at_call 31; refine (dc _ (Below.refl _ _)).mono ?_; rintro e w2 ⟨rfl, hb3⟩)
  go_ret2
  exact ⟨rfl, hb3⟩)
theorem byteN (b : ByteArray) (j : Nat) : strconv_Itoa.f ((b.data.toList.getD j 0).toNat : Int) = some (itoaB ((b.data.toList.getD j 0).toNat : Int)) := by
 have := (b.data.toList.getD j 0).toNat_lt
 unfold strconv_Itoa.f
 rw [if_pos ⟨by omega, by omega⟩]
 rfl
theorem parts_len (b : ByteArray) : (partsI b).length = b.size := by
 unfold partsI
 rw [List.length_map, bytes_len]
theorem parts_next (b : ByteArray) (j : Nat) (h : j < b.size) : (partsI b).take (j + 1) = (partsI b).take j ++ [itoaB ((b.data.toList.getD j 0).toNat : Int)] := by
 have hl : j < b.data.toList.length := by rw [← size_len]; exact h
 have e : (partsI b)[j]? = some (itoaB ((b.data.toList.getD j 0).toNat : Int)) := by
  unfold partsI bytesOf
  rw [List.getElem?_map, List.getElem?_map, List.getElem?_eq_getElem hl, List.getD_eq_getElem?_getD, List.getElem?_eq_getElem hl]
  rfl
 rw [List.take_add_one, e]
 rfl
theorem parts_size (b : ByteArray) : ∀ x ∈ partsI b, x.size ≤ 20 := by
 intro x hx
 unfold partsI bytesOf at hx
 rw [List.map_map] at hx
 obtain ⟨c, _, rfl⟩ := List.mem_map.mp hx
 have hc := c.toNat_lt
 have hl := Lib.nDigits_le20 c.toNat (by omega)
 rw [← Lib.decDigits_length] at hl
 show (itoaB (c.toNat : Int)).size ≤ 20
 unfold itoaB Lib.itoa
 rw [if_neg (by omega), Int.toNat_natCast]
 exact hl
set_option maxRecDepth 100000 in
set_option maxHeartbeats 8000000 in
theorem rd_addr (k : Nat) (b r1 : ByteArray) (r2 : Bool) (w : World) (hs : b.size = 4) (h : finI k 1 b (mkB (joinL (partsI b))) = some (r1, r2)) (hv : Vars w) :
 Calls Tryz.prog 11 #[.int .i64 1, .string b] w fun e w' => e = .returned (.tuple #[.string r1, .bool r2]) ∧ Below w.heap.size w w' := by
 obtain ⟨q1, q2, hq, hc⟩ := fin_cases h
 have dc := fun W (hb : Below w.heap.size w W) => impl_DataBytes.calls k 1 (mkB (joinL (partsI b))) q1 q2 W hq (Vars.below hv hb)
 have ic := fun j W (hb : Below w.heap.size w W) => strconv_Itoa.calls ((b.data.toList.getD j 0).toNat : Int) _ W (byteN b j) (Vars.below hv hb)
 have e1 : decide (100 < b.size) = false := decide_eq_false (by omega)
 have e2 : decide ((100 : Int) < (b.size : Int)) = false := decide_eq_false (by omega)
 have e3 : ((b.size : Int) == 4) = true := beq_iff_eq.mpr (by omega)
 have kb := fun W => print_bytes (P := Tryz.prog) 9 43 5 Tryz.underlying9 Tryz.underlying43 Tryz.underlying5 b W
 have HB0 : Aside0 (Below w.heap.size w (Lib.bytesWorld (w.alloc (.cells #[] 9)) 5 b)) := ⟨Go.Proofs.YtiegkjimpclmaaaGreatDoorW.PrintWords.bytes_below (below_alloc (Below.refl _ _) _) (by rw [World.size_alloc]; omega) _ _⟩
 have HC0 : Aside0 (∀ j, j < 4 → (Lib.bytesWorld (w.alloc (.cells #[] 9)) 5 b).cell? ⟨w.heap.size + 1, j, none⟩ = some (.int .u8 ((b.data.toList.getD j 0).toNat : Int))) := ⟨fun j hj => by
  have := Lib.bytesWorld_cell (w.alloc (.cells #[] 9)) 5 b j (by omega)
  rw [World.size_alloc] at this
  exact this⟩
 have HR0 : Aside0 (Kd.R Kd.string 9 (Lib.bytesWorld (w.alloc (.cells #[] 9)) 5 b) w.heap.size (fun k => k ≠ w.heap.size + 1) (.slice (some ⟨w.heap.size, 0, none⟩) 0 0) []) := ⟨Kd.R_below (w := w.alloc (.cells #[] 9)) ⟨fun q hq => by simp only [Value.ownBlock, Option.some.injEq] at hq; omega, OwnRow.lit w w.heap.size (Reps.none _ _) (Nat.le_refl _) (by decide)⟩ (Go.Proofs.YtiegkjimpclmaaaGreatDoorW.PrintWords.bytes_below (Below.refl _ _) (Nat.le_refl _) _ _)⟩
 have HS := Aside0.mk hs
 clear hv hq h
 rcases hc with ⟨rfl, rfl, rfl⟩ | ⟨rfl, c1, c2, rfl, rfl⟩ | ⟨rfl, c1, c2, rfl, rfl⟩ <;> (
  go_enter Tryz.func11, Tryz.ntmps11
  go_wp2
  go_loopg [7, 9, 28] 4 (fun gg s7 _ s28 wr => ∃ kk : Nat, kk ≤ 4 ∧ 4 - kk ≤ gg ∧ s28 = .int .i64 (kk : Int) ∧ Aside0 (Kd.R Kd.string 9 wr w.heap.size (fun k => k ≠ w.heap.size + 1) s7 ((partsI b).take kk)) ∧ Aside0 (Below w.heap.size w wr) ∧ Aside0 (∀ j, j < 4 → wr.cell? ⟨w.heap.size + 1, j, none⟩ = some (.int .u8 ((b.data.toList.getD j 0).toNat : Int))))
  case atStart => exact ⟨0, by omega, by omega, rfl, HR0, HB0, HC0⟩
  case round =>
   clear HR0 HB0 HC0
   obtain ⟨kk, hkk, hg, rfl, HR, HB, HC⟩ := hrel
   by_cases hlt : kk < 4
   · have hltz : (kk : Int) < 4 := by omega
     have hx := HC.out kk hlt
     have HN := Aside0.mk (parts_next b kk (by have := HS.out; omega))
     have ick := ic kk
     generalize b.data.toList.getD kk 0 = bb at hx HN ick
     have hbl : bb.toNat < 256 := bb.toNat_lt
     go_wp2_with (first | (go_at_call 56; refine (ick _ HB.out).mono ?_; rintro e w1 ⟨rfl, hb1⟩) | ((with_reducible refine gate_builtin (b := .append) (xs := #[.tmp 32, .tmp 36]) rfl ?_); at_builtin; refine Kd.R_append Kd.string (w0 := w) w.heap.size rfl (.tmp 32) (.tmp 36) 78 9 (.string ⟨#[]⟩) 16 rfl Tryz.underlying78 info9 rfl (by decide) (by omega) u7 ((partsI b).take kk) (itoaB (bb.toNat : Int)) [.string (itoaB (bb.toNat : Int))] (fun k => k ≠ w.heap.size + 1) (fun _ => False) rfl rfl ?aP (fun _ hk => hk.elim) ?aF ?aO ?aB ?aS ?aL ?_; (case aP => exact rfl); (case aF => exact (fun q hq => by have h1 := World.block_lt_of_cell? _ _ (HC.out 0 (by omega)); have h2 := hb1.size; simp only at h1; omega)); (case aO => exact Kd.R_below HR.out hb1); (case aB => exact below_step HB.out hb1); (case aS => have h1 := HB.out.size; have h2 := hb1.size; omega); (case aL => have h1 := List.length_take_le kk (partsI b); omega); intro v1 w2 ho hb2 hg2 hat))
     go_roundg (4 - (kk + 1))
     case measure => omega
     case rel => exact ⟨kk + 1, by omega, by omega, by go_num, ⟨by rw [HN.out]; exact ho⟩, ⟨hb2⟩, ⟨fun j hj => hg2.cell ((hb1.cell (World.block_lt_of_cell? _ _ (HC.out j hj))).trans (HC.out j hj)) (fun e => (Kd.R_below HR.out hb1).1 _ e.symm rfl)⟩⟩
   · obtain rfl : kk = 4 := by omega
     have hltz : ¬ ((4 : Nat) : Int) < 4 := by omega
     have hall : (partsI b).take 4 = partsI b := List.take_of_length_le (by rw [parts_len]; have := HS.out; omega)
     rw [hall] at HR
     obtain ⟨Ao, co, eo⟩ := Kd.R_slice HR.out
     subst eo
     have jc := join_calls Ao co (partsI b) _ (Kd.R_reads' HR.out).2.2 (Kd.R_reads' HR.out).2.1 (spot_R HR.out) (by have h1 := joinL_len (partsI b) (parts_size b); rw [parts_len] at h1; have := HS.out; omega) (by rw [parts_len]; have := HS.out; omega)
     go_wp2_with (first | (go_at_call 57; refine jc.mono ?_; rintro e w1 ⟨rfl, hb1⟩; have hb := below_step HB.out hb1) | (go_at_call 31; refine (dc _ hb).mono ?_; rintro e w2 ⟨rfl, hb2⟩; have hb3 := below_then hb hb.size hb2))
     go_ret2
     exact ⟨rfl, hb3⟩)
set_option maxRecDepth 100000 in
set_option maxHeartbeats 8000000 in
theorem rd_mail (k : Nat) (b t s r1 : ByteArray) (r2 : Bool) (n : Int) (w : World) (hs : b.size ≤ 100) (h2 : 2 < b.size) (hn : impl_number.f k (b.extract 0 2) = some n) (hi : strconv_Itoa.f n = some t) (hm : impl_nameIn.f k (b.extract 2 b.size) = some s) (hl : t.size + s.size ≤ 1000000) (h : finI k 15 b ((t ++ (⟨#[32]⟩ : ByteArray)) ++ s) = some (r1, r2)) (hv : Vars w) :
 Calls Tryz.prog 11 #[.int .i64 15, .string b] w fun e w' => e = .returned (.tuple #[.string r1, .bool r2]) ∧ Below w.heap.size w w' := by
 obtain ⟨q1, q2, hq, hc⟩ := fin_cases h
 have nc := fun W => impl_number.calls k (b.extract 0 2) n W hn
 have ic := fun W (hb : Below w.heap.size w W) => strconv_Itoa.calls n t W hi (Vars.below hv hb)
 have mc := fun W => impl_nameIn.calls k (b.extract 2 b.size) s W hm
 have dc := fun W (hb : Below w.heap.size w W) => impl_DataBytes.calls k 15 ((t ++ (⟨#[32]⟩ : ByteArray)) ++ s) q1 q2 W hq (Vars.below hv hb)
 have e1 : decide (100 < b.size) = false := decide_eq_false (by omega)
 have e2 : decide ((100 : Int) < (b.size : Int)) = false := decide_eq_false (by omega)
 have e3 : decide (2 < (b.size : Int)) = true := decide_eq_true (by omega)
 have e4 : decide (2 < b.size) = true := decide_eq_true (by omega)
 have e5 : (2 ≤ (b.size : Int)) = True := eq_true (by omega)
 have e6 : decide (2 ≤ (b.size : Int)) = true := decide_eq_true (by omega)
 have l1 : (t.size + 1 ≤ 9223372036854775807) = True := eq_true (by omega)
 have l2 : (9223372036854775807 < t.size + 1) = False := eq_false (by omega)
 have l3 : (t.size + 1 + s.size ≤ 9223372036854775807) = True := eq_true (by omega)
 have l4 : (9223372036854775807 < t.size + 1 + s.size) = False := eq_false (by omega)
 have es : (t ++ (⟨#[32]⟩ : ByteArray)).size = t.size + 1 := by rw [ByteArray.size_append]; rfl
 have l5 : ((t ++ (⟨#[32]⟩ : ByteArray)).size + s.size ≤ 9223372036854775807) = True := eq_true (by omega)
 have l6 : (9223372036854775807 < (t ++ (⟨#[32]⟩ : ByteArray)).size + s.size) = False := eq_false (by omega)
 have hbd := below_drew1 (Below.refl w.heap.size w)
 clear hv hn hi hm hq h hs h2 hl
 rcases hc with ⟨rfl, rfl, rfl⟩ | ⟨rfl, c1, c2, rfl, rfl⟩ | ⟨rfl, c1, c2, rfl, rfl⟩ <;> (
  go_enter Tryz.func11, Tryz.ntmps11
  go_wp2
  refine start_ (n := 10) (S := fun w' => True) (ds := []) #[false, false, false, false, false, false, false, false, false, false] (by kernel_rfl) rfl rfl trivial (fun hHeld => ?_)
  refine pure_ (i := 0) (N := some 69) (v := ?_) (a' := ?_) #[true, false, false, false, false, false, false, false, false, false] rfl rfl (by kernel_rfl) (fun _ _ _ h => h) (Or.inl ⟨by rfl, ?_⟩) ?_ ?_
  rotate_left
  · intro w'
    go_simp
    with_reducible rfl
  rotate_left
  · simp only [Act.put, List.setIfInBounds_toArray, List.set_cons_zero, List.set_cons_succ, i64_w, i32_w]
    rfl
  refine pure_ (i := 1) (N := some 70) (v := ?_) (a' := ?_) #[true, true, false, false, false, false, false, false, false, false] rfl rfl (by kernel_rfl) (fun _ _ _ h => h) (Or.inl ⟨by rfl, ?_⟩) ?_ ?_
  rotate_left
  · intro w'
    go_simp
    with_reducible rfl
  rotate_left
  · simp only [Act.put, List.setIfInBounds_toArray, List.set_cons_zero, List.set_cons_succ, i64_w, i32_w]
    rfl
  refine pure_ (i := 5) (N := some 74) (v := ?_) (a' := ?_) #[true, true, false, false, false, true, false, false, false, false] rfl rfl (by kernel_rfl) (fun _ _ _ h => h) (Or.inl ⟨by rfl, ?_⟩) ?_ ?_
  rotate_left
  · intro w'
    go_simp
    with_reducible rfl
  rotate_left
  · simp only [Act.put, List.setIfInBounds_toArray, List.set_cons_zero, List.set_cons_succ, i64_w, i32_w]
    rfl
  refine pure_ (i := 6) (N := some 75) (v := ?_) (a' := ?_) #[true, true, false, false, false, true, true, false, false, false] rfl rfl (by kernel_rfl) (fun _ _ _ h => h) (Or.inl ⟨by rfl, ?_⟩) ?_ ?_
  rotate_left
  · intro w'
    go_simp
    with_reducible rfl
  rotate_left
  · simp only [Act.put, List.setIfInBounds_toArray, List.set_cons_zero, List.set_cons_succ, i64_w, i32_w]
    rfl
  refine one_ (i := 2) (N := some 71) #[true, true, true, false, false, true, true, false, false, false] rfl rfl (by kernel_rfl) (by decide) (fun K hK => ?_)
  refine goes_ Tryz.func59 (by kernel_rfl) rfl #[.string (b.extract 0 2)] (by rfl) rfl rfl (by simp only [List.map_toArray, List.map_cons, List.map_nil]; rfl) ?_
  with_reducible refine (nc _).mono ?_
  rintro e w0 ⟨rfl, hd⟩
  refine ⟨_, rfl, ?_⟩
  have hb0 := below_step hbd hd.below
  refine hK.out _ _ trivial (fun hHeld => ?_)
  clear hK K
  refine norm_ (a' := ?_) ?_ ?_
  rotate_left
  · show Act.put _ (some 71) _ = _
    simp only [Act.put, List.setIfInBounds_toArray, List.set_cons_zero, List.set_cons_succ, i64_w, i32_w]
    rfl
  refine one_ (i := 3) (N := some 72) #[true, true, true, true, false, true, true, false, false, false] rfl rfl (by kernel_rfl) (by decide) (fun K hK => ?_)
  refine goes_ Tryz.func56 (by kernel_rfl) rfl #[.int .i64 n] (by rfl) rfl rfl (by simp only [List.map_toArray, List.map_cons, List.map_nil]; rfl) ?_
  with_reducible refine (ic _ hb0).mono ?_
  rintro e w1 ⟨rfl, hb1⟩
  refine ⟨_, rfl, ?_⟩
  have hb := below_step hb0 hb1
  refine hK.out _ _ trivial (fun hHeld => ?_)
  clear hK K
  refine norm_ (a' := ?_) ?_ ?_
  rotate_left
  · show Act.put _ (some 72) _ = _
    simp only [Act.put, List.setIfInBounds_toArray, List.set_cons_zero, List.set_cons_succ, i64_w, i32_w]
    rfl
  refine pure_ (i := 4) (N := some 73) (v := ?_) (a' := ?_) #[true, true, true, true, true, true, true, false, false, false] rfl rfl (by kernel_rfl) (fun _ _ _ h => h) (Or.inl ⟨by rfl, ?_⟩) ?_ ?_
  rotate_left
  · intro w'
    go_simp
    with_reducible rfl
  rotate_left
  · simp only [Act.put, List.setIfInBounds_toArray, List.set_cons_zero, List.set_cons_succ, i64_w, i32_w]
    rfl
  refine one_ (i := 7) (N := some 76) #[true, true, true, true, true, true, true, true, false, false] rfl rfl (by kernel_rfl) (by decide) (fun K hK => ?_)
  refine goes_ Tryz.func58 (by kernel_rfl) rfl #[.string (b.extract 2 b.size)] (by rfl) rfl rfl (by simp only [List.map_toArray, List.map_cons, List.map_nil]; rfl) ?_
  with_reducible refine (mc _).mono ?_
  rintro e w2 ⟨rfl, hb2⟩
  refine ⟨_, rfl, ?_⟩
  have hbm := below_step hb hb2
  refine hK.out _ _ trivial (fun hHeld => ?_)
  clear hK K
  refine norm_ (a' := ?_) ?_ ?_
  rotate_left
  · show Act.put _ (some 76) _ = _
    simp only [Act.put, List.setIfInBounds_toArray, List.set_cons_zero, List.set_cons_succ, i64_w, i32_w]
    rfl
  refine pure_ (i := 8) (N := some 77) (v := ?_) (a' := ?_) #[true, true, true, true, true, true, true, true, true, false] rfl rfl (by kernel_rfl) (fun _ _ _ h => h) (Or.inl ⟨by rfl, ?_⟩) ?_ ?_
  rotate_left
  · intro w'
    go_simp
    with_reducible rfl
  rotate_left
  · simp only [Act.put, List.setIfInBounds_toArray, List.set_cons_zero, List.set_cons_succ, i64_w, i32_w]
    rfl
  refine pure_ (i := 9) (N := some 6) (v := ?_) (a' := ?_) #[true, true, true, true, true, true, true, true, true, true] rfl rfl (by kernel_rfl) (fun _ _ _ h => h) (Or.inl ⟨by rfl, ?_⟩) ?_ ?_
  rotate_left
  · intro w'
    go_simp
    with_reducible rfl
  rotate_left
  · simp only [Act.put, List.setIfInBounds_toArray, List.set_cons_zero, List.set_cons_succ, i64_w, i32_w]
    rfl
  refine done_ (by kernel_rfl) ?_
  go_wp2_with (go_at_call 31; refine (dc _ hbm).mono ?_; rintro e w3 ⟨rfl, hb3⟩; have hb4 := below_then hbm hbm.size hb3)
  go_ret2
  exact ⟨rfl, hb4⟩)
theorem impl_ReadData.calls (k : Nat) (a0 : Int) (a1 : ByteArray) (r1 : ByteArray) (r2 : Bool) (w : World) (h : impl_ReadData.f k a0 a1 = some (r1, r2))
 (hv : Vars w := by first | assumption | (refine Vars.below (Aside0.out (by assumption)) ?_; repeat (first | (with_reducible first | exact Below.refl _ _ | exact Aside0.out (by assumption) | apply below_alloc | apply pw_below_drewN | apply below_drew1) | exact Aside0.out (by assumption)))) :
 Calls Tryz.prog 11 #[.int .i64 a0, .string a1] w fun e w' => e = .returned (.tuple #[.string r1, .bool r2]) ∧ Below w.heap.size w w' := by
 unfold impl_ReadData.f at h
 by_cases hs : 100 < a1.size
 · rw [if_pos hs] at h
   obtain ⟨rfl, rfl⟩ := Prod.mk.inj (Option.some.inj h)
   exact rd_big a0 a1 w hs
 rw [if_neg hs] at h
 have hs' : a1.size ≤ 100 := by omega
 obtain ⟨d, hd, h⟩ := Option.bind_eq_some_iff.mp h
 unfold preI at hd
 by_cases k1 : a0 = 1 ∧ a1.size = 4
 · rw [if_pos k1] at hd
   obtain rfl := Option.some.inj hd
   obtain ⟨rfl, h4⟩ := k1
   exact rd_addr k a1 r1 r2 w h4 h hv
 rw [if_neg k1] at hd
 by_cases k2 : a0 = 2 ∨ a0 = 5
 · rw [if_pos k2] at hd
   exact rd_name k a0 k2 a1 d r1 r2 w hs' hd h hv
 rw [if_neg k2] at hd
 by_cases k6 : a0 = 6 ∧ a1.size = 4
 · rw [if_pos k6] at hd
   obtain ⟨rfl, h4⟩ := k6
   obtain ⟨n, hn, hi⟩ := Option.bind_eq_some_iff.mp hd
   exact rd_serial k a1 d r1 r2 n w h4 hn hi h hv
 rw [if_neg k6] at hd
 by_cases k15 : a0 = 15 ∧ 2 < a1.size
 · rw [if_pos k15] at hd
   obtain ⟨rfl, h2⟩ := k15
   obtain ⟨n, hn, hd⟩ := Option.bind_eq_some_iff.mp hd
   obtain ⟨t, ht, hd⟩ := Option.bind_eq_some_iff.mp hd
   obtain ⟨s, hm, hd⟩ := Option.bind_eq_some_iff.mp hd
   by_cases hl : t.size + s.size ≤ 1000000
   · rw [if_pos hl] at hd
     obtain rfl := Option.some.inj hd
     exact rd_mail k a1 t s r1 r2 n w hs' h2 hn ht hm hl h hv
   · rw [if_neg hl] at hd
     cases hd
 rw [if_neg k15] at hd
 by_cases k16 : a0 = 16 ∧ 0 < a1.size
 · rw [if_pos k16] at hd
   obtain rfl := Option.some.inj hd
   obtain ⟨rfl, h0⟩ := k16
   exact rd_text k a1 r1 r2 w hs' h0 h hv
 rw [if_neg k16] at hd
 obtain rfl := Option.some.inj hd
 exact rd_none k a0 a1 r1 r2 w hs' k1 k2 k6 k15 k16 h hv
end Go.Proofs.YtiegkjimpclmaaaGreatDoor.P
