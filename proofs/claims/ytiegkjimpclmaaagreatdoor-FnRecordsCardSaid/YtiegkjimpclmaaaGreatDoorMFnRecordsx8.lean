/- FnRecords: part 9 of 29 of my texts for this claim, joined; the theorem stands in the last. Conditions: none beyond the statement's. -/
import Derived.Test.YtiegkjimpclmaaaGreatDoorMFnRecordsx6
import Derived.Laws.BitsAllLaws
namespace Go.Proofs.YtiegkjimpclmaaaGreatDoor.P
open Go.RowKit Go.Proofs.YtiegkjimpclmaaaGreatDoorW.PrintWords Go.Proofs.YtiegkjimpclmaaaGreatDoorW.PrintLast Go.Proofs.YtiegkjimpclmaaaGreatDoorW.PrintMore
attribute [local go_sem] max2_int min2_int max_two min_two max_three min_three max_four min_four
set_option linter.unusedVariables false
set_option linter.unusedSimpArgs false
mutual
def spec_l1Cur_spoilt.l0 : Nat → ByteArray → ByteArray → Int → List Int → Int → Int → Option (ByteArray × Int × Int)
 | 0, _, _, _, _, _, _ => none
 | k + 1, x1, x2, x7, x1000, x1001, x1002 => if x7 > 0 then (spec_l1Cur_spoilt.j1 k x1 x2 x7 (decide ((x1.size : Int) > 0)) x1000 x1001 x1002) else (spec_l1Cur_spoilt.j1 k x1 x2 x7 false x1000 x1001 x1002)
def spec_l1Cur_spoilt.j1 : Nat → ByteArray → ByteArray → Int → Bool → List Int → Int → Int → Option (ByteArray × Int × Int)
 | 0, _, _, _, _, _, _, _ => none
 | k + 1, x1, x2, x7, x18, x1000, x1001, x1002 => if x18 = true then ((spec_l1Cur_pick.f x1000 x1001 x1002 (x1.size : Int)).bind fun bt742 => ((spec_l1Cur_pick.f x1000 bt742.2.1 bt742.2.2 (x2.size : Int)).bind fun bt745 => (if 0 ≤ bt745.1 then (if bt745.1 < (x2.size : Int) then ((some (([bt x2 bt745.1] : List Int) : List Int)).bind fun y748 => ((spec_l1Cur_pick.f x1000 bt745.2.1 bt745.2.2 3).bind fun bt751 => (if bt751.1 = 0 then (if 0 ≤ bt742.1 then (if bt742.1 ≤ (x1.size : Int) then (if (x1.extract 0 (bt742.1 : Int).toNat).size + (strOfNums y748).size ≤ 9223372036854775807 then (if ((x1.extract 0 (bt742.1 : Int).toNat) ++ (strOfNums y748)).size + (x1.extract (bt742.1 : Int).toNat x1.size).size ≤ 9223372036854775807 then (spec_l1Cur_spoilt.l0 k (((x1.extract 0 (bt742.1 : Int).toNat) ++ (strOfNums y748)) ++ (x1.extract (bt742.1 : Int).toNat x1.size)) x2 (wrap64 (x7 - 1)) x1000 bt751.2.1 bt751.2.2) else (none)) else (none)) else (none)) else (none)) else (if bt751.1 = 1 then (if 0 ≤ bt742.1 then (if bt742.1 ≤ (x1.size : Int) then (if (x1.extract 0 (bt742.1 : Int).toNat).size + (strOfNums y748).size ≤ 9223372036854775807 then (if 0 ≤ (wrap64 (bt742.1 + 1)) then (if (wrap64 (bt742.1 + 1)) ≤ (x1.size : Int) then (if ((x1.extract 0 (bt742.1 : Int).toNat) ++ (strOfNums y748)).size + (x1.extract ((wrap64 (bt742.1 + 1)) : Int).toNat x1.size).size ≤ 9223372036854775807 then (spec_l1Cur_spoilt.l0 k (((x1.extract 0 (bt742.1 : Int).toNat) ++ (strOfNums y748)) ++ (x1.extract ((wrap64 (bt742.1 + 1)) : Int).toNat x1.size)) x2 (wrap64 (x7 - 1)) x1000 bt751.2.1 bt751.2.2) else (none)) else (none)) else (none)) else (none)) else (none)) else (none)) else (if 0 ≤ bt742.1 then (if bt742.1 ≤ (x1.size : Int) then (if 0 ≤ (wrap64 (bt742.1 + 1)) then (if (wrap64 (bt742.1 + 1)) ≤ (x1.size : Int) then (if (x1.extract 0 (bt742.1 : Int).toNat).size + (x1.extract ((wrap64 (bt742.1 + 1)) : Int).toNat x1.size).size ≤ 9223372036854775807 then (spec_l1Cur_spoilt.l0 k ((x1.extract 0 (bt742.1 : Int).toNat) ++ (x1.extract ((wrap64 (bt742.1 + 1)) : Int).toNat x1.size)) x2 (wrap64 (x7 - 1)) x1000 bt751.2.1 bt751.2.2) else (none)) else (none)) else (none)) else (none)) else (none)))))) else (none)) else (none)))) else (some (x1, x1001, x1002))
end
def spec_l1Cur_spoilt.f (k : Nat) (s0_0 : List Int) (s0_1 : Int) (s0_2 : Int) (a1 : ByteArray) (a2 : ByteArray) : Option (ByteArray × Int × Int) := (spec_l1Cur_pick.f s0_0 s0_1 s0_2 3).bind fun bt739 => (spec_l1Cur_spoilt.l0 k a1 a2 bt739.1 s0_0 bt739.2.1 bt739.2.2)
set_option maxHeartbeats 8000000 in
set_option maxRecDepth 100000 in
theorem spec_l1Cur_spoilt.calls (k : Nat) (g : Nat) (s0_0 : List Int) (s0_1 : Int) (s0_2 : Int) (a1 : ByteArray) (a2 : ByteArray) (r1 : ByteArray) (r2 : Int) (r3 : Int) (w0 w : World) (hI : IsS117 w0 w g s0_0 s0_1 s0_2) (hB : Below w0.heap.size w0 w) (h : spec_l1Cur_spoilt.f k s0_0 s0_1 s0_2 a1 a2 = some (r1, r2, r3)) :
 Calls Tryz.prog 100 #[.pointer (some ⟨g, 0, none⟩), .string a1, .string a2] w fun e w' => e = .returned (.string r1) ∧ IsS117 w0 w' g s0_0 r2 r3 ∧ Below w0.heap.size w0 w' ∧ KeepBut w w' g none := by
 have HI0 := a0_ hI
 have HK := a0_ (KeepBut.refl w g none)
 have HL := a0_ hB.size
 clear hI
 have HW0 := a0_ hB.size
 have HB := a0_ hB
 clear hB
 have H := h
 clear h
 unfold spec_l1Cur_spoilt.f at H
 obtain ⟨⟨t739, t740, t741⟩, A40, H⟩ := Option.bind_eq_some_iff.mp H
 have A4 := a0_ A40
 clear A40
 have H' := a0_ H
 clear H
 go_enter Tryz.func100, Tryz.ntmps100
 go_wp2_with (first | (go_at_call 111; (with_reducible refine (spec_l1Cur_pick.calls g s0_0 s0_1 s0_2 3 t739 t740 t741 w0 _ ?side1 ?side2 A4.out).mono ?_); (case side1 => exact i117_); (case side2 => exact bq2_); rintro e w5 ⟨rfl, hi, hb, hk⟩; replace HK := a0_ (kt_ HK hk (.inl rfl)); replace HB := a0_ (hb); replace HI0 := a0_ (hi); clear hb hk hi))
 repeat (go_quiet (first | (go_at_call 111; (with_reducible refine (spec_l1Cur_pick.calls g s0_0 s0_1 s0_2 3 t739 t740 t741 w0 _ ?side1 ?side2 A4.out).mono ?_); (case side1 => exact i117_); (case side2 => exact bq2_); rintro e w5 ⟨rfl, hi, hb, hk⟩; replace HK := a0_ (kt_ HK hk (.inl rfl)); replace HB := a0_ (hb); replace HI0 := a0_ (hi); clear hb hk hi)); try go_wp2_with (first | (go_at_call 111; (with_reducible refine (spec_l1Cur_pick.calls g s0_0 s0_1 s0_2 3 t739 t740 t741 w0 _ ?side1 ?side2 A4.out).mono ?_); (case side1 => exact i117_); (case side2 => exact bq2_); rintro e w5 ⟨rfl, hi, hb, hk⟩; replace HK := a0_ (kt_ HK hk (.inl rfl)); replace HB := a0_ (hb); replace HI0 := a0_ (hi); clear hb hk hi)))
 go_loopg [1, 7] k (fun kq v1 v7 w' => ∃ (x1_1 : ByteArray) (x7_1 : Int) (x1001_1 : Int) (x1002_1 : Int), v1 = .string x1_1 ∧ v7 = .int .i64 x7_1 ∧ Aside0 (spec_l1Cur_spoilt.l0 kq x1_1 a2 x7_1 s0_0 x1001_1 x1002_1 = some (r1, r2, r3)) ∧ Aside0 (kq ≤ k) ∧ Aside0 (IsS117 w0 w' g s0_0 x1001_1 x1002_1) ∧ Aside0 (KeepBut w w' g none) ∧ Aside0 (Below w0.heap.size w0 w'))
 case atStart => exact ⟨(a1), (t739), (t740), (t741), rs_, rs_, H', ⟨Nat.le_refl _⟩, ⟨i117_⟩, ⟨kq_⟩, ⟨bq2_⟩⟩
 case round =>
  clear H'
  obtain ⟨x1_1, x7_1, x1001_1, x1002_1, rfl, rfl, HA, HK1, HI0, HK, HB⟩ := hrel
  cases gk with
  | zero => exact absurd HA.out (by simp [spec_l1Cur_spoilt.l0])
  | succ k1 =>
   have H := HA.out
   clear HA
   simp only [spec_l1Cur_spoilt.l0] at H
   have HC6 := a0_ H
   clear H
   go_upto_region 2 with (fail)
   repeat (go_quiet (fail); go_upto_region 2 with (fail))
   go_cut [18] (fun v18 wc => ∃ (kq : Nat) (x18_5 : Bool), v18 = .bool x18_5 ∧ Aside0 (spec_l1Cur_spoilt.j1 kq x1_1 a2 x7_1 x18_5 s0_0 x1001_1 x1002_1 = some (r1, r2, r3)) ∧ Aside0 (kq ≤ k1) ∧ Aside0 (IsS117 w0 wc g s0_0 x1001_1 x1002_1) ∧ Aside0 (KeepBut w wc g none) ∧ Aside0 (Below w0.heap.size w0 wc))
   case first =>
    have H := HC6.out
    clear HC6
    by_cases c7 : x7_1 > 0
    case neg =>
     rw [if_neg c7] at H
     have c7b0 := decide_eq_false c7
     clear c7
     (first | rw [c7b0] | (simp only [i64_w, i32_w]; rw [c7b0]) | skip)
     have H' := a0_ H
     clear H
     go_wp2
     repeat (go_quiet (fail); try go_wp2)
     go_meet
     case rel => exact ⟨_, (false), rs_, H', ⟨by have := HK1.out; first | omega | exact Nat.le_refl _⟩, ⟨i117_⟩, ⟨kq_⟩, ⟨bq2_⟩⟩
    rw [if_pos c7] at H
    have c7b0 := decide_eq_true c7
    clear c7
    (first | rw [c7b0] | (simp only [i64_w, i32_w]; rw [c7b0]) | skip)
    have H' := a0_ H
    clear H
    go_wp2
    repeat (go_quiet (fail); try go_wp2)
    go_meet
    case rel => exact ⟨_, (decide ((x1_1.size : Int) > 0)), rs_, H', ⟨by have := HK1.out; first | omega | exact Nat.le_refl _⟩, ⟨i117_⟩, ⟨kq_⟩, ⟨bq2_⟩⟩
   case rest =>
    clear HC6
    try clear c1
    try clear p2
    try clear p2
    obtain ⟨kq, x18_5, rfl, HA, HJ5, HI0, HK, HB⟩ := hcut
    cases kq with
    | zero => exact absurd HA.out (by simp [spec_l1Cur_spoilt.j1])
    | succ kj5 =>
     have H := HA.out
     clear HA
     simp only [spec_l1Cur_spoilt.j1] at H
     by_cases c8 : x18_5 = true
     case neg =>
      replace c8 := Bool.eq_false_iff.mpr c8
      subst c8
      rw [if_neg (show ¬ (false = true) by decide)] at H
      simp only [Option.some.injEq, Prod.mk.injEq] at H
      obtain ⟨rfl, rfl, rfl⟩ := H
      go_wp2
      repeat (go_quiet (fail); try go_wp2)
      go_ret
      exact ⟨rr_, i117_, bq2_, kq_⟩
     subst c8
     rw [if_pos rfl] at H
     obtain ⟨⟨t742, t743, t744⟩, A90, H⟩ := Option.bind_eq_some_iff.mp H
     have A9 := a0_ A90
     clear A90
     obtain ⟨⟨t745, t746, t747⟩, A100, H⟩ := Option.bind_eq_some_iff.mp H
     have A10 := a0_ A100
     clear A100
     by_cases c11 : 0 ≤ t745
     case neg =>
      rw [if_neg c11] at H
      exact absurd H (by simp)
     rw [if_pos c11] at H
     have c11b0 := decide_eq_true c11
     clear c11
     by_cases c12 : t745 < (a2.size : Int)
     case neg =>
      rw [if_neg c12] at H
      exact absurd H (by simp)
     rw [if_pos c12] at H
     have c12b0 := decide_eq_true c12
     clear c12
     obtain ⟨y748, hy748⟩ : ∃ y_ : List Int, y_ = (([bt a2 t745] : List Int)) := ⟨_, rfl⟩
     replace H : ((spec_l1Cur_pick.f s0_0 t746 t747 3).bind fun bt751 => (if bt751.1 = 0 then (if 0 ≤ t742 then (if t742 ≤ (x1_1.size : Int) then (if (x1_1.extract 0 (t742 : Int).toNat).size + (strOfNums y748).size ≤ 9223372036854775807 then (if ((x1_1.extract 0 (t742 : Int).toNat) ++ (strOfNums y748)).size + (x1_1.extract (t742 : Int).toNat x1_1.size).size ≤ 9223372036854775807 then (spec_l1Cur_spoilt.l0 kj5 (((x1_1.extract 0 (t742 : Int).toNat) ++ (strOfNums y748)) ++ (x1_1.extract (t742 : Int).toNat x1_1.size)) a2 (wrap64 (x7_1 - 1)) s0_0 bt751.2.1 bt751.2.2) else (none)) else (none)) else (none)) else (none)) else (if bt751.1 = 1 then (if 0 ≤ t742 then (if t742 ≤ (x1_1.size : Int) then (if (x1_1.extract 0 (t742 : Int).toNat).size + (strOfNums y748).size ≤ 9223372036854775807 then (if 0 ≤ (wrap64 (t742 + 1)) then (if (wrap64 (t742 + 1)) ≤ (x1_1.size : Int) then (if ((x1_1.extract 0 (t742 : Int).toNat) ++ (strOfNums y748)).size + (x1_1.extract ((wrap64 (t742 + 1)) : Int).toNat x1_1.size).size ≤ 9223372036854775807 then (spec_l1Cur_spoilt.l0 kj5 (((x1_1.extract 0 (t742 : Int).toNat) ++ (strOfNums y748)) ++ (x1_1.extract ((wrap64 (t742 + 1)) : Int).toNat x1_1.size)) a2 (wrap64 (x7_1 - 1)) s0_0 bt751.2.1 bt751.2.2) else (none)) else (none)) else (none)) else (none)) else (none)) else (none)) else (if 0 ≤ t742 then (if t742 ≤ (x1_1.size : Int) then (if 0 ≤ (wrap64 (t742 + 1)) then (if (wrap64 (t742 + 1)) ≤ (x1_1.size : Int) then (if (x1_1.extract 0 (t742 : Int).toNat).size + (x1_1.extract ((wrap64 (t742 + 1)) : Int).toNat x1_1.size).size ≤ 9223372036854775807 then (spec_l1Cur_spoilt.l0 kj5 ((x1_1.extract 0 (t742 : Int).toNat) ++ (x1_1.extract ((wrap64 (t742 + 1)) : Int).toNat x1_1.size)) a2 (wrap64 (x7_1 - 1)) s0_0 bt751.2.1 bt751.2.2) else (none)) else (none)) else (none)) else (none)) else (none))))) = some (r1, r2, r3) := by first | (rw [hy748]; with_reducible exact H) | (have H2_ := (Option.bind_some _ _).symm.trans H; rw [hy748]; with_reducible exact H2_) | (have H2_ := (Option.bind_some _ _).symm.trans H; with_reducible exact H2_) | with_reducible exact H | (rw [hy748]; exact H) | exact H
     have Ny748 := a0_ hy748
     clear hy748
     obtain ⟨⟨t751, t752, t753⟩, A140, H⟩ := Option.bind_eq_some_iff.mp H
     have A14 := a0_ A140
     clear A140
     by_cases c15 : t751 = 0
     case pos =>
      rw [if_pos c15] at H
      have c15b0 := beq_iff_eq.mpr c15
      have c15b1 := bne_eq_false_iff_eq.mpr c15
      clear c15
      by_cases c16 : 0 ≤ t742
      case neg =>
       rw [if_neg c16] at H
       exact absurd H (by simp)
      rw [if_pos c16] at H
      have c16b0 := eq_true c16
      have c16b1 := decide_eq_true c16
      clear c16
      by_cases c17 : t742 ≤ (x1_1.size : Int)
      case neg =>
       rw [if_neg c17] at H
       exact absurd H (by simp)
      rw [if_pos c17] at H
      have c17b0 := eq_true c17
      have c17b1 := decide_eq_true c17
      clear c17
      by_cases c18 : (x1_1.extract 0 (t742 : Int).toNat).size + (strOfNums y748).size ≤ 9223372036854775807
      case neg =>
       rw [if_neg c18] at H
       exact absurd H (by simp)
      rw [if_pos c18] at H
      have c18b0 := eq_true c18
      have c18b1 := decide_eq_true c18
      try have c18b2 : (9223372036854775807 < (x1_1.extract 0 (t742 : Int).toNat).size + (strOfNums y748).size) = False := eq_false (Nat.not_lt.2 c18)
      have c19b0 := eq_true (dec_ : 0 ≤ t742)
      have c20b0 := eq_true (dec_ : t742 ≤ (x1_1.size : Int))
      by_cases c21 : ((x1_1.extract 0 (t742 : Int).toNat) ++ (strOfNums y748)).size + (x1_1.extract (t742 : Int).toNat x1_1.size).size ≤ 9223372036854775807
      case neg =>
       rw [if_neg c21] at H
       exact absurd H (by simp)
      rw [if_pos c21] at H
      have c21b0 := eq_true c21
      have c21b1 := decide_eq_true c21
      try have c21b2 : (9223372036854775807 < ((x1_1.extract 0 (t742 : Int).toNat) ++ (strOfNums y748)).size + (x1_1.extract (t742 : Int).toNat x1_1.size).size) = False := eq_false (Nat.not_lt.2 c21)
      have H' := a0_ H
      clear H
      go_wp2_with (first | (go_at_call 111; (with_reducible refine (spec_l1Cur_pick.calls g s0_0 x1001_1 x1002_1 (x1_1.size : Int) t742 t743 t744 w0 _ ?side1 ?side2 A9.out).mono ?_); (case side1 => exact i117_); (case side2 => exact bq2_); rintro e w22 ⟨rfl, hi, hb, hk⟩; replace HK := a0_ (kt_ HK hk (.inl rfl)); replace HB := a0_ (hb); replace HI0 := a0_ (hi); clear hb hk hi) | (go_at_call 111; (with_reducible refine (spec_l1Cur_pick.calls g s0_0 t743 t744 (a2.size : Int) t745 t746 t747 w0 _ ?side1 ?side2 A10.out).mono ?_); (case side1 => exact i117_); (case side2 => exact bq2_); rintro e w23 ⟨rfl, hi, hb, hk⟩; replace HK := a0_ (kt_ HK hk (.inl rfl)); replace HB := a0_ (hb); replace HI0 := a0_ (hi); clear hb hk hi; have p13 : 0 ≤ (t745 : Int) := dec_; have q13 : t745 < (a2.size : Int) := dec_; have hx13 := bt_at a2 t745; replace p13 := eq_true p13; replace q13 := eq_true q13) | ((with_reducible refine gate_dst (N := 31) rfl ?_); (try (refine gate_guard (by rfl) ?_; dsimp only)); refine Kd.R_lit (Kd.int .u8) _ 5 ?hg (N := 31) ?hd (xs := ([bt a2 t745] : List Int)) (inner := [.int .u8 (bt a2 t745)]) (ok := fun _ => True) (okp := fun _ => True) ?hr ?hp (fun _ hk => hk) trivial (Below.refl _ _) (Nat.le_refl _) (by simp) ?_; (case hd => rfl); (case hg => rfl); (case hr => first | (go_simp; done) | (go_simp; rfl)); (case hp => exact (Reps.one (show Kd.M (Kd.int .u8) _ _ _ (bt a2 t745) [.int .u8 (bt a2 t745)] from rfl) (Reps.none _ _))); intro v749 w24 ho25 hb hg_ hnew_; clear hg_ hnew_; (first | rw [← Ny748.out] at ho25 | (simp only [Int.reduceToNat] at ho25; rw [← Ny748.out] at ho25)); have n0_ := a0_ (Kd.R_lower ho25 (keep_size (w := w) (g := g) (row := none) kq_)); have n1_ := a0_ (IsS117.below i117_ hb); have n2_ := a0_ (kt_ HK (KeepBut.of_below hb g none) (.inl rfl)); have n3_ := a0_ (below_step bq2_ hb); clear HI0; clear HK; clear HB; have HO750 := n0_; have HI0 := n1_; have HK := n2_; have HB := n3_; clear n0_ n1_ n2_ n3_; clear hb ho25; have hcv26 := own_string (P := Tryz.prog) Tryz.underlying43 Tryz.underlying5 Tryz.underlying9 (Kd.own_of_R HO750.out)) | (go_at_call 111; (with_reducible refine (spec_l1Cur_pick.calls g s0_0 t746 t747 3 t751 t752 t753 w0 _ ?side1 ?side2 A14.out).mono ?_); (case side1 => exact i117_); (case side2 => exact bq2_); rintro e w27 ⟨rfl, hi, hb, hk⟩; replace HO750 := a0_ (Kd.R_mono (Kd.R_keep (IsS117.apart (show IsS117 w0 _ g s0_0 t746 t747 from i117_) (kR_ HO750.out) (by decide)) hk (fun _ h => h.2)) (fun _ h => h.1)); replace HK := a0_ (kt_ HK hk (.inl rfl)); replace HB := a0_ (hb); replace HI0 := a0_ (hi); clear hb hk hi))
      repeat (go_quiet (first | (go_at_call 111; (with_reducible refine (spec_l1Cur_pick.calls g s0_0 x1001_1 x1002_1 (x1_1.size : Int) t742 t743 t744 w0 _ ?side1 ?side2 A9.out).mono ?_); (case side1 => exact i117_); (case side2 => exact bq2_); rintro e w22 ⟨rfl, hi, hb, hk⟩; replace HK := a0_ (kt_ HK hk (.inl rfl)); replace HB := a0_ (hb); replace HI0 := a0_ (hi); clear hb hk hi) | (go_at_call 111; (with_reducible refine (spec_l1Cur_pick.calls g s0_0 t743 t744 (a2.size : Int) t745 t746 t747 w0 _ ?side1 ?side2 A10.out).mono ?_); (case side1 => exact i117_); (case side2 => exact bq2_); rintro e w23 ⟨rfl, hi, hb, hk⟩; replace HK := a0_ (kt_ HK hk (.inl rfl)); replace HB := a0_ (hb); replace HI0 := a0_ (hi); clear hb hk hi; have p13 : 0 ≤ (t745 : Int) := dec_; have q13 : t745 < (a2.size : Int) := dec_; have hx13 := bt_at a2 t745; replace p13 := eq_true p13; replace q13 := eq_true q13) | ((with_reducible refine gate_dst (N := 31) rfl ?_); (try (refine gate_guard (by rfl) ?_; dsimp only)); refine Kd.R_lit (Kd.int .u8) _ 5 ?hg (N := 31) ?hd (xs := ([bt a2 t745] : List Int)) (inner := [.int .u8 (bt a2 t745)]) (ok := fun _ => True) (okp := fun _ => True) ?hr ?hp (fun _ hk => hk) trivial (Below.refl _ _) (Nat.le_refl _) (by simp) ?_; (case hd => rfl); (case hg => rfl); (case hr => first | (go_simp; done) | (go_simp; rfl)); (case hp => exact (Reps.one (show Kd.M (Kd.int .u8) _ _ _ (bt a2 t745) [.int .u8 (bt a2 t745)] from rfl) (Reps.none _ _))); intro v749 w24 ho25 hb hg_ hnew_; clear hg_ hnew_; (first | rw [← Ny748.out] at ho25 | (simp only [Int.reduceToNat] at ho25; rw [← Ny748.out] at ho25)); have n0_ := a0_ (Kd.R_lower ho25 (keep_size (w := w) (g := g) (row := none) kq_)); have n1_ := a0_ (IsS117.below i117_ hb); have n2_ := a0_ (kt_ HK (KeepBut.of_below hb g none) (.inl rfl)); have n3_ := a0_ (below_step bq2_ hb); clear HI0; clear HK; clear HB; have HO750 := n0_; have HI0 := n1_; have HK := n2_; have HB := n3_; clear n0_ n1_ n2_ n3_; clear hb ho25; have hcv26 := own_string (P := Tryz.prog) Tryz.underlying43 Tryz.underlying5 Tryz.underlying9 (Kd.own_of_R HO750.out)) | (go_at_call 111; (with_reducible refine (spec_l1Cur_pick.calls g s0_0 t746 t747 3 t751 t752 t753 w0 _ ?side1 ?side2 A14.out).mono ?_); (case side1 => exact i117_); (case side2 => exact bq2_); rintro e w27 ⟨rfl, hi, hb, hk⟩; replace HO750 := a0_ (Kd.R_mono (Kd.R_keep (IsS117.apart (show IsS117 w0 _ g s0_0 t746 t747 from i117_) (kR_ HO750.out) (by decide)) hk (fun _ h => h.2)) (fun _ h => h.1)); replace HK := a0_ (kt_ HK hk (.inl rfl)); replace HB := a0_ (hb); replace HI0 := a0_ (hi); clear hb hk hi)); try go_wp2_with (first | (go_at_call 111; (with_reducible refine (spec_l1Cur_pick.calls g s0_0 x1001_1 x1002_1 (x1_1.size : Int) t742 t743 t744 w0 _ ?side1 ?side2 A9.out).mono ?_); (case side1 => exact i117_); (case side2 => exact bq2_); rintro e w22 ⟨rfl, hi, hb, hk⟩; replace HK := a0_ (kt_ HK hk (.inl rfl)); replace HB := a0_ (hb); replace HI0 := a0_ (hi); clear hb hk hi) | (go_at_call 111; (with_reducible refine (spec_l1Cur_pick.calls g s0_0 t743 t744 (a2.size : Int) t745 t746 t747 w0 _ ?side1 ?side2 A10.out).mono ?_); (case side1 => exact i117_); (case side2 => exact bq2_); rintro e w23 ⟨rfl, hi, hb, hk⟩; replace HK := a0_ (kt_ HK hk (.inl rfl)); replace HB := a0_ (hb); replace HI0 := a0_ (hi); clear hb hk hi; have p13 : 0 ≤ (t745 : Int) := dec_; have q13 : t745 < (a2.size : Int) := dec_; have hx13 := bt_at a2 t745; replace p13 := eq_true p13; replace q13 := eq_true q13) | ((with_reducible refine gate_dst (N := 31) rfl ?_); (try (refine gate_guard (by rfl) ?_; dsimp only)); refine Kd.R_lit (Kd.int .u8) _ 5 ?hg (N := 31) ?hd (xs := ([bt a2 t745] : List Int)) (inner := [.int .u8 (bt a2 t745)]) (ok := fun _ => True) (okp := fun _ => True) ?hr ?hp (fun _ hk => hk) trivial (Below.refl _ _) (Nat.le_refl _) (by simp) ?_; (case hd => rfl); (case hg => rfl); (case hr => first | (go_simp; done) | (go_simp; rfl)); (case hp => exact (Reps.one (show Kd.M (Kd.int .u8) _ _ _ (bt a2 t745) [.int .u8 (bt a2 t745)] from rfl) (Reps.none _ _))); intro v749 w24 ho25 hb hg_ hnew_; clear hg_ hnew_; (first | rw [← Ny748.out] at ho25 | (simp only [Int.reduceToNat] at ho25; rw [← Ny748.out] at ho25)); have n0_ := a0_ (Kd.R_lower ho25 (keep_size (w := w) (g := g) (row := none) kq_)); have n1_ := a0_ (IsS117.below i117_ hb); have n2_ := a0_ (kt_ HK (KeepBut.of_below hb g none) (.inl rfl)); have n3_ := a0_ (below_step bq2_ hb); clear HI0; clear HK; clear HB; have HO750 := n0_; have HI0 := n1_; have HK := n2_; have HB := n3_; clear n0_ n1_ n2_ n3_; clear hb ho25; have hcv26 := own_string (P := Tryz.prog) Tryz.underlying43 Tryz.underlying5 Tryz.underlying9 (Kd.own_of_R HO750.out)) | (go_at_call 111; (with_reducible refine (spec_l1Cur_pick.calls g s0_0 t746 t747 3 t751 t752 t753 w0 _ ?side1 ?side2 A14.out).mono ?_); (case side1 => exact i117_); (case side2 => exact bq2_); rintro e w27 ⟨rfl, hi, hb, hk⟩; replace HO750 := a0_ (Kd.R_mono (Kd.R_keep (IsS117.apart (show IsS117 w0 _ g s0_0 t746 t747 from i117_) (kR_ HO750.out) (by decide)) hk (fun _ h => h.2)) (fun _ h => h.1)); replace HK := a0_ (kt_ HK hk (.inl rfl)); replace HB := a0_ (hb); replace HI0 := a0_ (hi); clear hb hk hi)))
      go_roundg kj5
      case measure => have := HK1.out; have := HJ5.out; omega
      case rel => exact ⟨(((x1_1.extract 0 (t742 : Int).toNat) ++ (strOfNums y748)) ++ (x1_1.extract (t742 : Int).toNat x1_1.size)), (wrap64 (x7_1 - 1)), (t752), (t753), rs_, rs_, H', ⟨by have := HK1.out; have := HJ5.out; omega⟩, ⟨i117_⟩, ⟨kq_⟩, ⟨bq2_⟩⟩
     rw [if_neg c15] at H
     have c15b0 := beq_eq_false_iff_ne.mpr c15
     have c15b1 := bne_iff_ne.mpr c15
     by_cases c28 : t751 = 1
     case neg =>
      rw [if_neg c28] at H
      have c28b0 := beq_eq_false_iff_ne.mpr c28
      have c28b1 := bne_iff_ne.mpr c28
      by_cases c42 : 0 ≤ t742
      case neg =>
       rw [if_neg c42] at H
       exact absurd H (by simp)
      rw [if_pos c42] at H
      have c42b0 := eq_true c42
      have c42b1 := decide_eq_true c42
      clear c42
      by_cases c43 : t742 ≤ (x1_1.size : Int)
      case neg =>
       rw [if_neg c43] at H
       exact absurd H (by simp)
      rw [if_pos c43] at H
      have c43b0 := eq_true c43
      have c43b1 := decide_eq_true c43
      clear c43
      obtain ⟨ji44, hji44⟩ : ∃ j_ : Int, (wrap64 (t742 + 1)) = j_ := ⟨_, rfl⟩
      (first | rw [hji44] at H | simp only [hji44] at H)
      (try rw [hji44] at A9)
      (try rw [hji44] at A10)
      (try rw [hji44] at A14)
      have hji44w : (IntKind.i64.wrap (t742 + 1)) = ji44 := (i64_w _).trans hji44
      by_cases c45 : 0 ≤ (ji44)
      case neg =>
       rw [if_neg c45] at H
       exact absurd H (by simp)
      rw [if_pos c45] at H
      have c45b0 := eq_true c45
      have c45b1 := decide_eq_true c45
      clear c45
      by_cases c46 : (ji44) ≤ (x1_1.size : Int)
      case neg =>
       rw [if_neg c46] at H
       exact absurd H (by simp)
      rw [if_pos c46] at H
      have c46b0 := eq_true c46
      have c46b1 := decide_eq_true c46
      clear c46
      by_cases c47 : (x1_1.extract 0 (t742 : Int).toNat).size + (x1_1.extract ((ji44) : Int).toNat x1_1.size).size ≤ 9223372036854775807
      case neg =>
       rw [if_neg c47] at H
       exact absurd H (by simp)
      rw [if_pos c47] at H
      have c47b0 := eq_true c47
      have c47b1 := decide_eq_true c47
      try have c47b2 : (9223372036854775807 < (x1_1.extract 0 (t742 : Int).toNat).size + (x1_1.extract ((ji44) : Int).toNat x1_1.size).size) = False := eq_false (Nat.not_lt.2 c47)
      have H' := a0_ H
      clear H
      go_wp2_with (first | (go_at_call 111; (with_reducible refine (spec_l1Cur_pick.calls g s0_0 x1001_1 x1002_1 (x1_1.size : Int) t742 t743 t744 w0 _ ?side1 ?side2 A9.out).mono ?_); (case side1 => exact i117_); (case side2 => exact bq2_); rintro e w48 ⟨rfl, hi, hb, hk⟩; replace HK := a0_ (kt_ HK hk (.inl rfl)); replace HB := a0_ (hb); replace HI0 := a0_ (hi); clear hb hk hi) | (go_at_call 111; (with_reducible refine (spec_l1Cur_pick.calls g s0_0 t743 t744 (a2.size : Int) t745 t746 t747 w0 _ ?side1 ?side2 A10.out).mono ?_); (case side1 => exact i117_); (case side2 => exact bq2_); rintro e w49 ⟨rfl, hi, hb, hk⟩; replace HK := a0_ (kt_ HK hk (.inl rfl)); replace HB := a0_ (hb); replace HI0 := a0_ (hi); clear hb hk hi; have p13 : 0 ≤ (t745 : Int) := dec_; have q13 : t745 < (a2.size : Int) := dec_; have hx13 := bt_at a2 t745; replace p13 := eq_true p13; replace q13 := eq_true q13) | ((with_reducible refine gate_dst (N := 31) rfl ?_); (try (refine gate_guard (by rfl) ?_; dsimp only)); refine Kd.R_lit (Kd.int .u8) _ 5 ?hg (N := 31) ?hd (xs := ([bt a2 t745] : List Int)) (inner := [.int .u8 (bt a2 t745)]) (ok := fun _ => True) (okp := fun _ => True) ?hr ?hp (fun _ hk => hk) trivial (Below.refl _ _) (Nat.le_refl _) (by simp) ?_; (case hd => rfl); (case hg => rfl); (case hr => first | (go_simp; done) | (go_simp; rfl)); (case hp => exact (Reps.one (show Kd.M (Kd.int .u8) _ _ _ (bt a2 t745) [.int .u8 (bt a2 t745)] from rfl) (Reps.none _ _))); intro v749 w50 ho51 hb hg_ hnew_; clear hg_ hnew_; (first | rw [← Ny748.out] at ho51 | (simp only [Int.reduceToNat] at ho51; rw [← Ny748.out] at ho51)); have n0_ := a0_ (Kd.R_lower ho51 (keep_size (w := w) (g := g) (row := none) kq_)); have n1_ := a0_ (IsS117.below i117_ hb); have n2_ := a0_ (kt_ HK (KeepBut.of_below hb g none) (.inl rfl)); have n3_ := a0_ (below_step bq2_ hb); clear HI0; clear HK; clear HB; have HO750 := n0_; have HI0 := n1_; have HK := n2_; have HB := n3_; clear n0_ n1_ n2_ n3_; clear hb ho51; have hcv52 := own_string (P := Tryz.prog) Tryz.underlying43 Tryz.underlying5 Tryz.underlying9 (Kd.own_of_R HO750.out)) | (go_at_call 111; (with_reducible refine (spec_l1Cur_pick.calls g s0_0 t746 t747 3 t751 t752 t753 w0 _ ?side1 ?side2 A14.out).mono ?_); (case side1 => exact i117_); (case side2 => exact bq2_); rintro e w53 ⟨rfl, hi, hb, hk⟩; replace HO750 := a0_ (Kd.R_mono (Kd.R_keep (IsS117.apart (show IsS117 w0 _ g s0_0 t746 t747 from i117_) (kR_ HO750.out) (by decide)) hk (fun _ h => h.2)) (fun _ h => h.1)); replace HK := a0_ (kt_ HK hk (.inl rfl)); replace HB := a0_ (hb); replace HI0 := a0_ (hi); clear hb hk hi))
      repeat (go_quiet (first | (go_at_call 111; (with_reducible refine (spec_l1Cur_pick.calls g s0_0 x1001_1 x1002_1 (x1_1.size : Int) t742 t743 t744 w0 _ ?side1 ?side2 A9.out).mono ?_); (case side1 => exact i117_); (case side2 => exact bq2_); rintro e w48 ⟨rfl, hi, hb, hk⟩; replace HK := a0_ (kt_ HK hk (.inl rfl)); replace HB := a0_ (hb); replace HI0 := a0_ (hi); clear hb hk hi) | (go_at_call 111; (with_reducible refine (spec_l1Cur_pick.calls g s0_0 t743 t744 (a2.size : Int) t745 t746 t747 w0 _ ?side1 ?side2 A10.out).mono ?_); (case side1 => exact i117_); (case side2 => exact bq2_); rintro e w49 ⟨rfl, hi, hb, hk⟩; replace HK := a0_ (kt_ HK hk (.inl rfl)); replace HB := a0_ (hb); replace HI0 := a0_ (hi); clear hb hk hi; have p13 : 0 ≤ (t745 : Int) := dec_; have q13 : t745 < (a2.size : Int) := dec_; have hx13 := bt_at a2 t745; replace p13 := eq_true p13; replace q13 := eq_true q13) | ((with_reducible refine gate_dst (N := 31) rfl ?_); (try (refine gate_guard (by rfl) ?_; dsimp only)); refine Kd.R_lit (Kd.int .u8) _ 5 ?hg (N := 31) ?hd (xs := ([bt a2 t745] : List Int)) (inner := [.int .u8 (bt a2 t745)]) (ok := fun _ => True) (okp := fun _ => True) ?hr ?hp (fun _ hk => hk) trivial (Below.refl _ _) (Nat.le_refl _) (by simp) ?_; (case hd => rfl); (case hg => rfl); (case hr => first | (go_simp; done) | (go_simp; rfl)); (case hp => exact (Reps.one (show Kd.M (Kd.int .u8) _ _ _ (bt a2 t745) [.int .u8 (bt a2 t745)] from rfl) (Reps.none _ _))); intro v749 w50 ho51 hb hg_ hnew_; clear hg_ hnew_; (first | rw [← Ny748.out] at ho51 | (simp only [Int.reduceToNat] at ho51; rw [← Ny748.out] at ho51)); have n0_ := a0_ (Kd.R_lower ho51 (keep_size (w := w) (g := g) (row := none) kq_)); have n1_ := a0_ (IsS117.below i117_ hb); have n2_ := a0_ (kt_ HK (KeepBut.of_below hb g none) (.inl rfl)); have n3_ := a0_ (below_step bq2_ hb); clear HI0; clear HK; clear HB; have HO750 := n0_; have HI0 := n1_; have HK := n2_; have HB := n3_; clear n0_ n1_ n2_ n3_; clear hb ho51; have hcv52 := own_string (P := Tryz.prog) Tryz.underlying43 Tryz.underlying5 Tryz.underlying9 (Kd.own_of_R HO750.out)) | (go_at_call 111; (with_reducible refine (spec_l1Cur_pick.calls g s0_0 t746 t747 3 t751 t752 t753 w0 _ ?side1 ?side2 A14.out).mono ?_); (case side1 => exact i117_); (case side2 => exact bq2_); rintro e w53 ⟨rfl, hi, hb, hk⟩; replace HO750 := a0_ (Kd.R_mono (Kd.R_keep (IsS117.apart (show IsS117 w0 _ g s0_0 t746 t747 from i117_) (kR_ HO750.out) (by decide)) hk (fun _ h => h.2)) (fun _ h => h.1)); replace HK := a0_ (kt_ HK hk (.inl rfl)); replace HB := a0_ (hb); replace HI0 := a0_ (hi); clear hb hk hi)); try go_wp2_with (first | (go_at_call 111; (with_reducible refine (spec_l1Cur_pick.calls g s0_0 x1001_1 x1002_1 (x1_1.size : Int) t742 t743 t744 w0 _ ?side1 ?side2 A9.out).mono ?_); (case side1 => exact i117_); (case side2 => exact bq2_); rintro e w48 ⟨rfl, hi, hb, hk⟩; replace HK := a0_ (kt_ HK hk (.inl rfl)); replace HB := a0_ (hb); replace HI0 := a0_ (hi); clear hb hk hi) | (go_at_call 111; (with_reducible refine (spec_l1Cur_pick.calls g s0_0 t743 t744 (a2.size : Int) t745 t746 t747 w0 _ ?side1 ?side2 A10.out).mono ?_); (case side1 => exact i117_); (case side2 => exact bq2_); rintro e w49 ⟨rfl, hi, hb, hk⟩; replace HK := a0_ (kt_ HK hk (.inl rfl)); replace HB := a0_ (hb); replace HI0 := a0_ (hi); clear hb hk hi; have p13 : 0 ≤ (t745 : Int) := dec_; have q13 : t745 < (a2.size : Int) := dec_; have hx13 := bt_at a2 t745; replace p13 := eq_true p13; replace q13 := eq_true q13) | ((with_reducible refine gate_dst (N := 31) rfl ?_); (try (refine gate_guard (by rfl) ?_; dsimp only)); refine Kd.R_lit (Kd.int .u8) _ 5 ?hg (N := 31) ?hd (xs := ([bt a2 t745] : List Int)) (inner := [.int .u8 (bt a2 t745)]) (ok := fun _ => True) (okp := fun _ => True) ?hr ?hp (fun _ hk => hk) trivial (Below.refl _ _) (Nat.le_refl _) (by simp) ?_; (case hd => rfl); (case hg => rfl); (case hr => first | (go_simp; done) | (go_simp; rfl)); (case hp => exact (Reps.one (show Kd.M (Kd.int .u8) _ _ _ (bt a2 t745) [.int .u8 (bt a2 t745)] from rfl) (Reps.none _ _))); intro v749 w50 ho51 hb hg_ hnew_; clear hg_ hnew_; (first | rw [← Ny748.out] at ho51 | (simp only [Int.reduceToNat] at ho51; rw [← Ny748.out] at ho51)); have n0_ := a0_ (Kd.R_lower ho51 (keep_size (w := w) (g := g) (row := none) kq_)); have n1_ := a0_ (IsS117.below i117_ hb); have n2_ := a0_ (kt_ HK (KeepBut.of_below hb g none) (.inl rfl)); have n3_ := a0_ (below_step bq2_ hb); clear HI0; clear HK; clear HB; have HO750 := n0_; have HI0 := n1_; have HK := n2_; have HB := n3_; clear n0_ n1_ n2_ n3_; clear hb ho51; have hcv52 := own_string (P := Tryz.prog) Tryz.underlying43 Tryz.underlying5 Tryz.underlying9 (Kd.own_of_R HO750.out)) | (go_at_call 111; (with_reducible refine (spec_l1Cur_pick.calls g s0_0 t746 t747 3 t751 t752 t753 w0 _ ?side1 ?side2 A14.out).mono ?_); (case side1 => exact i117_); (case side2 => exact bq2_); rintro e w53 ⟨rfl, hi, hb, hk⟩; replace HO750 := a0_ (Kd.R_mono (Kd.R_keep (IsS117.apart (show IsS117 w0 _ g s0_0 t746 t747 from i117_) (kR_ HO750.out) (by decide)) hk (fun _ h => h.2)) (fun _ h => h.1)); replace HK := a0_ (kt_ HK hk (.inl rfl)); replace HB := a0_ (hb); replace HI0 := a0_ (hi); clear hb hk hi)))
      go_roundg kj5
      case measure => have := HK1.out; have := HJ5.out; omega
      case rel => exact ⟨((x1_1.extract 0 (t742 : Int).toNat) ++ (x1_1.extract ((ji44) : Int).toNat x1_1.size)), (wrap64 (x7_1 - 1)), (t752), (t753), (by first | rfl | (simp; done) | (simp only [← hji44] <;> (first | rfl | simp)) | (simp [*]; done)), rs_, H', ⟨by have := HK1.out; have := HJ5.out; omega⟩, ⟨i117_⟩, ⟨kq_⟩, ⟨bq2_⟩⟩
     rw [if_pos c28] at H
     have c28b0 := beq_iff_eq.mpr c28
     have c28b1 := bne_eq_false_iff_eq.mpr c28
     clear c28
     by_cases c29 : 0 ≤ t742
     case neg =>
      rw [if_neg c29] at H
      exact absurd H (by simp)
     rw [if_pos c29] at H
     have c29b0 := eq_true c29
     have c29b1 := decide_eq_true c29
     clear c29
     by_cases c30 : t742 ≤ (x1_1.size : Int)
     case neg =>
      rw [if_neg c30] at H
      exact absurd H (by simp)
     rw [if_pos c30] at H
     have c30b0 := eq_true c30
     have c30b1 := decide_eq_true c30
     clear c30
     by_cases c31 : (x1_1.extract 0 (t742 : Int).toNat).size + (strOfNums y748).size ≤ 9223372036854775807
     case neg =>
      rw [if_neg c31] at H
      exact absurd H (by simp)
     rw [if_pos c31] at H
     have c31b0 := eq_true c31
     have c31b1 := decide_eq_true c31
     try have c31b2 : (9223372036854775807 < (x1_1.extract 0 (t742 : Int).toNat).size + (strOfNums y748).size) = False := eq_false (Nat.not_lt.2 c31)
     obtain ⟨ji32, hji32⟩ : ∃ j_ : Int, (wrap64 (t742 + 1)) = j_ := ⟨_, rfl⟩
     (first | rw [hji32] at H | simp only [hji32] at H)
     (try rw [hji32] at A9)
     (try rw [hji32] at A10)
     (try rw [hji32] at A14)
     have hji32w : (IntKind.i64.wrap (t742 + 1)) = ji32 := (i64_w _).trans hji32
     by_cases c33 : 0 ≤ (ji32)
     case neg =>
      rw [if_neg c33] at H
      exact absurd H (by simp)
     rw [if_pos c33] at H
     have c33b0 := eq_true c33
     have c33b1 := decide_eq_true c33
     clear c33
     by_cases c34 : (ji32) ≤ (x1_1.size : Int)
     case neg =>
      rw [if_neg c34] at H
      exact absurd H (by simp)
     rw [if_pos c34] at H
     have c34b0 := eq_true c34
     have c34b1 := decide_eq_true c34
     clear c34
     by_cases c35 : ((x1_1.extract 0 (t742 : Int).toNat) ++ (strOfNums y748)).size + (x1_1.extract ((ji32) : Int).toNat x1_1.size).size ≤ 9223372036854775807
     case neg =>
      rw [if_neg c35] at H
      exact absurd H (by simp)
     rw [if_pos c35] at H
     have c35b0 := eq_true c35
     have c35b1 := decide_eq_true c35
     try have c35b2 : (9223372036854775807 < ((x1_1.extract 0 (t742 : Int).toNat) ++ (strOfNums y748)).size + (x1_1.extract ((ji32) : Int).toNat x1_1.size).size) = False := eq_false (Nat.not_lt.2 c35)
     have H' := a0_ H
     clear H
     go_wp2_with (first | (go_at_call 111; (with_reducible refine (spec_l1Cur_pick.calls g s0_0 x1001_1 x1002_1 (x1_1.size : Int) t742 t743 t744 w0 _ ?side1 ?side2 A9.out).mono ?_); (case side1 => exact i117_); (case side2 => exact bq2_); rintro e w36 ⟨rfl, hi, hb, hk⟩; replace HK := a0_ (kt_ HK hk (.inl rfl)); replace HB := a0_ (hb); replace HI0 := a0_ (hi); clear hb hk hi) | (go_at_call 111; (with_reducible refine (spec_l1Cur_pick.calls g s0_0 t743 t744 (a2.size : Int) t745 t746 t747 w0 _ ?side1 ?side2 A10.out).mono ?_); (case side1 => exact i117_); (case side2 => exact bq2_); rintro e w37 ⟨rfl, hi, hb, hk⟩; replace HK := a0_ (kt_ HK hk (.inl rfl)); replace HB := a0_ (hb); replace HI0 := a0_ (hi); clear hb hk hi; have p13 : 0 ≤ (t745 : Int) := dec_; have q13 : t745 < (a2.size : Int) := dec_; have hx13 := bt_at a2 t745; replace p13 := eq_true p13; replace q13 := eq_true q13) | ((with_reducible refine gate_dst (N := 31) rfl ?_); (try (refine gate_guard (by rfl) ?_; dsimp only)); refine Kd.R_lit (Kd.int .u8) _ 5 ?hg (N := 31) ?hd (xs := ([bt a2 t745] : List Int)) (inner := [.int .u8 (bt a2 t745)]) (ok := fun _ => True) (okp := fun _ => True) ?hr ?hp (fun _ hk => hk) trivial (Below.refl _ _) (Nat.le_refl _) (by simp) ?_; (case hd => rfl); (case hg => rfl); (case hr => first | (go_simp; done) | (go_simp; rfl)); (case hp => exact (Reps.one (show Kd.M (Kd.int .u8) _ _ _ (bt a2 t745) [.int .u8 (bt a2 t745)] from rfl) (Reps.none _ _))); intro v749 w38 ho39 hb hg_ hnew_; clear hg_ hnew_; (first | rw [← Ny748.out] at ho39 | (simp only [Int.reduceToNat] at ho39; rw [← Ny748.out] at ho39)); have n0_ := a0_ (Kd.R_lower ho39 (keep_size (w := w) (g := g) (row := none) kq_)); have n1_ := a0_ (IsS117.below i117_ hb); have n2_ := a0_ (kt_ HK (KeepBut.of_below hb g none) (.inl rfl)); have n3_ := a0_ (below_step bq2_ hb); clear HI0; clear HK; clear HB; have HO750 := n0_; have HI0 := n1_; have HK := n2_; have HB := n3_; clear n0_ n1_ n2_ n3_; clear hb ho39; have hcv40 := own_string (P := Tryz.prog) Tryz.underlying43 Tryz.underlying5 Tryz.underlying9 (Kd.own_of_R HO750.out)) | (go_at_call 111; (with_reducible refine (spec_l1Cur_pick.calls g s0_0 t746 t747 3 t751 t752 t753 w0 _ ?side1 ?side2 A14.out).mono ?_); (case side1 => exact i117_); (case side2 => exact bq2_); rintro e w41 ⟨rfl, hi, hb, hk⟩; replace HO750 := a0_ (Kd.R_mono (Kd.R_keep (IsS117.apart (show IsS117 w0 _ g s0_0 t746 t747 from i117_) (kR_ HO750.out) (by decide)) hk (fun _ h => h.2)) (fun _ h => h.1)); replace HK := a0_ (kt_ HK hk (.inl rfl)); replace HB := a0_ (hb); replace HI0 := a0_ (hi); clear hb hk hi))
     repeat (go_quiet (first | (go_at_call 111; (with_reducible refine (spec_l1Cur_pick.calls g s0_0 x1001_1 x1002_1 (x1_1.size : Int) t742 t743 t744 w0 _ ?side1 ?side2 A9.out).mono ?_); (case side1 => exact i117_); (case side2 => exact bq2_); rintro e w36 ⟨rfl, hi, hb, hk⟩; replace HK := a0_ (kt_ HK hk (.inl rfl)); replace HB := a0_ (hb); replace HI0 := a0_ (hi); clear hb hk hi) | (go_at_call 111; (with_reducible refine (spec_l1Cur_pick.calls g s0_0 t743 t744 (a2.size : Int) t745 t746 t747 w0 _ ?side1 ?side2 A10.out).mono ?_); (case side1 => exact i117_); (case side2 => exact bq2_); rintro e w37 ⟨rfl, hi, hb, hk⟩; replace HK := a0_ (kt_ HK hk (.inl rfl)); replace HB := a0_ (hb); replace HI0 := a0_ (hi); clear hb hk hi; have p13 : 0 ≤ (t745 : Int) := dec_; have q13 : t745 < (a2.size : Int) := dec_; have hx13 := bt_at a2 t745; replace p13 := eq_true p13; replace q13 := eq_true q13) | ((with_reducible refine gate_dst (N := 31) rfl ?_); (try (refine gate_guard (by rfl) ?_; dsimp only)); refine Kd.R_lit (Kd.int .u8) _ 5 ?hg (N := 31) ?hd (xs := ([bt a2 t745] : List Int)) (inner := [.int .u8 (bt a2 t745)]) (ok := fun _ => True) (okp := fun _ => True) ?hr ?hp (fun _ hk => hk) trivial (Below.refl _ _) (Nat.le_refl _) (by simp) ?_; (case hd => rfl); (case hg => rfl); (case hr => first | (go_simp; done) | (go_simp; rfl)); (case hp => exact (Reps.one (show Kd.M (Kd.int .u8) _ _ _ (bt a2 t745) [.int .u8 (bt a2 t745)] from rfl) (Reps.none _ _))); intro v749 w38 ho39 hb hg_ hnew_; clear hg_ hnew_; (first | rw [← Ny748.out] at ho39 | (simp only [Int.reduceToNat] at ho39; rw [← Ny748.out] at ho39)); have n0_ := a0_ (Kd.R_lower ho39 (keep_size (w := w) (g := g) (row := none) kq_)); have n1_ := a0_ (IsS117.below i117_ hb); have n2_ := a0_ (kt_ HK (KeepBut.of_below hb g none) (.inl rfl)); have n3_ := a0_ (below_step bq2_ hb); clear HI0; clear HK; clear HB; have HO750 := n0_; have HI0 := n1_; have HK := n2_; have HB := n3_; clear n0_ n1_ n2_ n3_; clear hb ho39; have hcv40 := own_string (P := Tryz.prog) Tryz.underlying43 Tryz.underlying5 Tryz.underlying9 (Kd.own_of_R HO750.out)) | (go_at_call 111; (with_reducible refine (spec_l1Cur_pick.calls g s0_0 t746 t747 3 t751 t752 t753 w0 _ ?side1 ?side2 A14.out).mono ?_); (case side1 => exact i117_); (case side2 => exact bq2_); rintro e w41 ⟨rfl, hi, hb, hk⟩; replace HO750 := a0_ (Kd.R_mono (Kd.R_keep (IsS117.apart (show IsS117 w0 _ g s0_0 t746 t747 from i117_) (kR_ HO750.out) (by decide)) hk (fun _ h => h.2)) (fun _ h => h.1)); replace HK := a0_ (kt_ HK hk (.inl rfl)); replace HB := a0_ (hb); replace HI0 := a0_ (hi); clear hb hk hi)); try go_wp2_with (first | (go_at_call 111; (with_reducible refine (spec_l1Cur_pick.calls g s0_0 x1001_1 x1002_1 (x1_1.size : Int) t742 t743 t744 w0 _ ?side1 ?side2 A9.out).mono ?_); (case side1 => exact i117_); (case side2 => exact bq2_); rintro e w36 ⟨rfl, hi, hb, hk⟩; replace HK := a0_ (kt_ HK hk (.inl rfl)); replace HB := a0_ (hb); replace HI0 := a0_ (hi); clear hb hk hi) | (go_at_call 111; (with_reducible refine (spec_l1Cur_pick.calls g s0_0 t743 t744 (a2.size : Int) t745 t746 t747 w0 _ ?side1 ?side2 A10.out).mono ?_); (case side1 => exact i117_); (case side2 => exact bq2_); rintro e w37 ⟨rfl, hi, hb, hk⟩; replace HK := a0_ (kt_ HK hk (.inl rfl)); replace HB := a0_ (hb); replace HI0 := a0_ (hi); clear hb hk hi; have p13 : 0 ≤ (t745 : Int) := dec_; have q13 : t745 < (a2.size : Int) := dec_; have hx13 := bt_at a2 t745; replace p13 := eq_true p13; replace q13 := eq_true q13) | ((with_reducible refine gate_dst (N := 31) rfl ?_); (try (refine gate_guard (by rfl) ?_; dsimp only)); refine Kd.R_lit (Kd.int .u8) _ 5 ?hg (N := 31) ?hd (xs := ([bt a2 t745] : List Int)) (inner := [.int .u8 (bt a2 t745)]) (ok := fun _ => True) (okp := fun _ => True) ?hr ?hp (fun _ hk => hk) trivial (Below.refl _ _) (Nat.le_refl _) (by simp) ?_; (case hd => rfl); (case hg => rfl); (case hr => first | (go_simp; done) | (go_simp; rfl)); (case hp => exact (Reps.one (show Kd.M (Kd.int .u8) _ _ _ (bt a2 t745) [.int .u8 (bt a2 t745)] from rfl) (Reps.none _ _))); intro v749 w38 ho39 hb hg_ hnew_; clear hg_ hnew_; (first | rw [← Ny748.out] at ho39 | (simp only [Int.reduceToNat] at ho39; rw [← Ny748.out] at ho39)); have n0_ := a0_ (Kd.R_lower ho39 (keep_size (w := w) (g := g) (row := none) kq_)); have n1_ := a0_ (IsS117.below i117_ hb); have n2_ := a0_ (kt_ HK (KeepBut.of_below hb g none) (.inl rfl)); have n3_ := a0_ (below_step bq2_ hb); clear HI0; clear HK; clear HB; have HO750 := n0_; have HI0 := n1_; have HK := n2_; have HB := n3_; clear n0_ n1_ n2_ n3_; clear hb ho39; have hcv40 := own_string (P := Tryz.prog) Tryz.underlying43 Tryz.underlying5 Tryz.underlying9 (Kd.own_of_R HO750.out)) | (go_at_call 111; (with_reducible refine (spec_l1Cur_pick.calls g s0_0 t746 t747 3 t751 t752 t753 w0 _ ?side1 ?side2 A14.out).mono ?_); (case side1 => exact i117_); (case side2 => exact bq2_); rintro e w41 ⟨rfl, hi, hb, hk⟩; replace HO750 := a0_ (Kd.R_mono (Kd.R_keep (IsS117.apart (show IsS117 w0 _ g s0_0 t746 t747 from i117_) (kR_ HO750.out) (by decide)) hk (fun _ h => h.2)) (fun _ h => h.1)); replace HK := a0_ (kt_ HK hk (.inl rfl)); replace HB := a0_ (hb); replace HI0 := a0_ (hi); clear hb hk hi)))
     go_roundg kj5
     case measure => have := HK1.out; have := HJ5.out; omega
     case rel => exact ⟨(((x1_1.extract 0 (t742 : Int).toNat) ++ (strOfNums y748)) ++ (x1_1.extract ((ji32) : Int).toNat x1_1.size)), (wrap64 (x7_1 - 1)), (t752), (t753), (by first | rfl | (simp; done) | (simp only [← hji32] <;> (first | rfl | simp)) | (simp [*]; done)), rs_, H', ⟨by have := HK1.out; have := HJ5.out; omega⟩, ⟨i117_⟩, ⟨kq_⟩, ⟨bq2_⟩⟩
def spec_l1Cur_one.f (s0_0 : List Int) (s0_1 : Int) (s0_2 : Int) (a1 : Int) : Option (Bool × Int × Int) := (spec_l1Cur_pick.f s0_0 s0_1 s0_2 a1).bind fun bt736 => (some ((bt736.1 == 0), bt736.2.1, bt736.2.2))
set_option maxHeartbeats 8000000 in
set_option maxRecDepth 100000 in
theorem spec_l1Cur_one.calls (g : Nat) (s0_0 : List Int) (s0_1 : Int) (s0_2 : Int) (a1 : Int) (r1 : Bool) (r2 : Int) (r3 : Int) (w0 w : World) (hI : IsS117 w0 w g s0_0 s0_1 s0_2) (hB : Below w0.heap.size w0 w) (h : spec_l1Cur_one.f s0_0 s0_1 s0_2 a1 = some (r1, r2, r3)) :
 Calls Tryz.prog 99 #[.pointer (some ⟨g, 0, none⟩), .int .i64 a1] w fun e w' => e = .returned (.bool r1) ∧ IsS117 w0 w' g s0_0 r2 r3 ∧ Below w0.heap.size w0 w' ∧ KeepBut w w' g none := by
 have HI0 := a0_ hI
 have HK := a0_ (KeepBut.refl w g none)
 have HL := a0_ hB.size
 clear hI
 have HW0 := a0_ hB.size
 have HB := a0_ hB
 clear hB
 have H := h
 clear h
 unfold spec_l1Cur_one.f at H
 obtain ⟨⟨t736, t737, t738⟩, A30, H⟩ := Option.bind_eq_some_iff.mp H
 have A3 := a0_ A30
 clear A30
 simp only [Option.some.injEq, Prod.mk.injEq] at H
 obtain ⟨rfl, rfl, rfl⟩ := H
 go_enter Tryz.func99, Tryz.ntmps99
 go_wp2_with (first | ((with_reducible refine gate_callee (f := 111) rfl ?_); refine goesL_ (some 7) rfl rfl Tryz.func111 (by kernel_rfl) rfl #[.pointer (some ⟨g, 0, none⟩), .int .i64 a1] rfl argsS_ ?_; (with_reducible refine (spec_l1Cur_pick.calls g s0_0 s0_1 s0_2 a1 t736 t737 t738 w0 _ ?side1 ?side2 A3.out).mono ?_); (case side1 => exact i117_); (case side2 => exact bq2_); rintro e w4 ⟨rfl, hi, hb, hk⟩; refine ⟨_, rfl, ?_⟩; replace HK := a0_ (kt_ HK hk (.inl rfl)); replace HB := a0_ (hb); replace HI0 := a0_ (hi); clear hb hk hi))
 go_ret
 exact ⟨rr_, i117_, bq2_, kq_⟩
def slices_Compare_string_string.l0 : Nat → List ByteArray → List ByteArray → List ByteArray → Int → Int → Option (Int)
 | 0, _, _, _, _, _ => none
 | k + 1, x0, x1, x9, x10, x11 => if x11 < x10 then (if 0 ≤ x11 then (if x11 < (x9.length : Int) then (if x11 ≥ (x1.length : Int) then (some 1) else (if x11 < (x1.length : Int) then ((cmp_Compare_string.f (rdOf ByteArray.empty x9 x11) (rdOf ByteArray.empty x1 x11)).bind fun t377 => (if t377 = 0 then (slices_Compare_string_string.l0 k x0 x1 x9 x10 (wrap64 (x11 + 1))) else (some t377))) else (none))) else (none)) else (none)) else (if (x0.length : Int) < (x1.length : Int) then (some (-1)) else (some 0))
def slices_Compare_string_string.f (k : Nat) (l0 : List ByteArray) (l1 : List ByteArray) : Option (Int) := slices_Compare_string_string.l0 k l0 l1 l0 (l0.length : Int) 0
set_option maxHeartbeats 8000000 in
set_option maxRecDepth 100000 in
theorem slices_Compare_string_string.calls (k : Nat) (A0 : Option Addr) (c0 : Nat) (l0 : List ByteArray) (A1 : Option Addr) (c1 : Nat) (l1 : List ByteArray) (r : Int) (w : World) (hr0 : Kd.C Kd.string w A0 l0.length l0) (hc0 : l0.length ≤ c0) (hr1 : Kd.C Kd.string w A1 l1.length l1) (hc1 : l1.length ≤ c1) (h : slices_Compare_string_string.f k l0 l1 = some r) :
 Calls Tryz.prog 178 #[.slice A0 l0.length c0, .slice A1 l1.length c1] w fun e w' => e = .returned (.int .i64 r) ∧ Drawn0 w w' := by
 have HR0 := a0_ hr0
 have HC0 := a0_ hc0
 clear hr0 hc0
 have HR1 := a0_ hr1
 have HC1 := a0_ hc1
 clear hr1 hc1
 have H := h
 clear h
 unfold slices_Compare_string_string.f at H
 have H' := a0_ H
 clear H
 go_enter Tryz.func178, Tryz.ntmps178
 go_wp2
 go_loopg [11] k (fun kq v11 w' => ∃ (x11_1 : Int), v11 = .int .i64 x11_1 ∧ Aside0 (slices_Compare_string_string.l0 kq l0 l1 l0 (l0.length : Int) x11_1 = some r) ∧ Aside0 (kq ≤ k) ∧ Drawn0 w w')
 case atStart => exact ⟨(0), rs_, H', ⟨Nat.le_refl _⟩, dr_⟩
 case round =>
  clear H'
  try clear c1
  obtain ⟨x11_1, rfl, HA, HK1, ⟨m1, rfl⟩⟩ := hrel
  cases gk with
  | zero => exact absurd HA.out (by simp [slices_Compare_string_string.l0])
  | succ k1 =>
   have H := HA.out
   clear HA
   simp only [slices_Compare_string_string.l0] at H
   by_cases c3 : x11_1 < (l0.length : Int)
   case neg =>
    rw [if_neg c3] at H
    have c3b0 := decide_eq_false c3
    clear c3
    by_cases c10 : (l0.length : Int) < (l1.length : Int)
    case neg =>
     rw [if_neg c10] at H
     have c10b0 := decide_eq_false c10
     have c10b1 : decide (l0.length < l1.length) = false := decide_eq_false (fun h => c10 (Int.ofNat_lt.mpr h))
     clear c10
     obtain rfl := Option.some.inj H
     go_wp2
     go_ret
     exact ⟨rs_, dr_⟩
    rw [if_pos c10] at H
    have c10b0 := decide_eq_true c10
    have c10b1 : decide (l0.length < l1.length) = true := decide_eq_true (Int.ofNat_lt.mp c10)
    clear c10
    obtain rfl := Option.some.inj H
    go_wp2
    go_ret
    exact ⟨rs_, dr_⟩
   rw [if_pos c3] at H
   have c3b0 := decide_eq_true c3
   clear c3
   by_cases c4 : 0 ≤ x11_1
   case neg =>
    rw [if_neg c4] at H
    exact absurd H (by simp)
   rw [if_pos c4] at H
   have c4b0 := decide_eq_true c4
   clear c4
   by_cases c5 : x11_1 < (l0.length : Int)
   case neg =>
    rw [if_neg c5] at H
    exact absurd H (by simp)
   rw [if_pos c5] at H
   have c5b0 := decide_eq_true c5
   clear c5
   by_cases c6 : x11_1 ≥ (l1.length : Int)
   case pos =>
    rw [if_pos c6] at H
    have c6b0 := decide_eq_true c6
    clear c6
    obtain rfl := Option.some.inj H
    have p375 : 0 ≤ (x11_1 : Int) := dec_
    have q375 : x11_1 < (l0.length : Int) := dec_
    obtain ⟨ad375, e375, hx375_0⟩ := Kd.at_string HR0.out x11_1 p375 q375
    cases e375
    replace p375 := eq_true p375
    replace q375 := eq_true q375
    go_wp2
    go_ret
    exact ⟨rs_, dr_⟩
   rw [if_neg c6] at H
   have c6b0 := decide_eq_false c6
   clear c6
   by_cases c7 : x11_1 < (l1.length : Int)
   case neg =>
    rw [if_neg c7] at H
    exact absurd H (by simp)
   rw [if_pos c7] at H
   have c7b0 := decide_eq_true c7
   clear c7
   obtain ⟨t377, A80, H⟩ := Option.bind_eq_some_iff.mp H
   have A8 := a0_ A80
   clear A80
   by_cases c9 : t377 = 0
   case neg =>
    rw [if_neg c9] at H
    have c9b0 := beq_eq_false_iff_ne.mpr c9
    have c9b1 := bne_iff_ne.mpr c9
    obtain rfl := Option.some.inj H
    have p375 : 0 ≤ (x11_1 : Int) := dec_
    have q375 : x11_1 < (l0.length : Int) := dec_
    obtain ⟨ad375, e375, hx375_0⟩ := Kd.at_string HR0.out x11_1 p375 q375
    cases e375
    replace p375 := eq_true p375
    replace q375 := eq_true q375
    have p376 : 0 ≤ (x11_1 : Int) := dec_
    have q376 : x11_1 < (l1.length : Int) := dec_
    obtain ⟨ad376, e376, hx376_0⟩ := Kd.at_string HR1.out x11_1 p376 q376
    cases e376
    replace p376 := eq_true p376
    replace q376 := eq_true q376
    go_wp2_with (first | ((with_reducible refine gate_callee (f := 208) rfl ?_); refine goesL_ (some 26) rfl rfl Tryz.func208 (by kernel_rfl) rfl #[.string (rdOf ByteArray.empty l0 x11_1), .string (rdOf ByteArray.empty l1 x11_1)] rfl argsS_ ?_; (with_reducible refine (cmp_Compare_string.calls (rdOf ByteArray.empty l0 x11_1) (rdOf ByteArray.empty l1 x11_1) t377 _ A8.out).mono ?_); rintro e w' ⟨rfl, ⟨nd, rfl⟩⟩; refine ⟨_, rfl, ?_⟩))
    go_ret
    exact ⟨rs_, dr_⟩
   rw [if_pos c9] at H
   have c9b0 := beq_iff_eq.mpr c9
   have c9b1 := bne_eq_false_iff_eq.mpr c9
   clear c9
   have H' := a0_ H
   clear H
   have p375 : 0 ≤ (x11_1 : Int) := dec_
   have q375 : x11_1 < (l0.length : Int) := dec_
   obtain ⟨ad375, e375, hx375_0⟩ := Kd.at_string HR0.out x11_1 p375 q375
   cases e375
   replace p375 := eq_true p375
   replace q375 := eq_true q375
   have p376 : 0 ≤ (x11_1 : Int) := dec_
   have q376 : x11_1 < (l1.length : Int) := dec_
   obtain ⟨ad376, e376, hx376_0⟩ := Kd.at_string HR1.out x11_1 p376 q376
   cases e376
   replace p376 := eq_true p376
   replace q376 := eq_true q376
   go_wp2_with (first | ((with_reducible refine gate_callee (f := 208) rfl ?_); refine goesL_ (some 26) rfl rfl Tryz.func208 (by kernel_rfl) rfl #[.string (rdOf ByteArray.empty l0 x11_1), .string (rdOf ByteArray.empty l1 x11_1)] rfl argsS_ ?_; (with_reducible refine (cmp_Compare_string.calls (rdOf ByteArray.empty l0 x11_1) (rdOf ByteArray.empty l1 x11_1) t377 _ A8.out).mono ?_); rintro e w' ⟨rfl, ⟨nd, rfl⟩⟩; refine ⟨_, rfl, ?_⟩))
   go_roundg k1
   case measure => have := HK1.out; omega
   case rel => exact ⟨(wrap64 (x11_1 + 1)), rs_, H', ⟨by have := HK1.out; omega⟩, dr_⟩
end Go.Proofs.YtiegkjimpclmaaaGreatDoor.P
namespace Go.Proofs.YtiegkjimpclmaaaGreatDoor.Pure
open Go.RowKit Go.Proofs.YtiegkjimpclmaaaGreatDoor.P Go.Proofs.YtiegkjimpclmaaaGreatDoorW.PrintWords Go.Proofs.YtiegkjimpclmaaaGreatDoorW.PrintLast
def Bytes (l : List Int) : Prop := ∀ x ∈ l, 0 ≤ x ∧ x ≤ 255
theorem bytes_of {l : List Int} (h : ∀ x ∈ l, (Lit.int .u8 x).wf = true) : Bytes l := fun x hx => by
 simpa [Lit.wf, IntKind.min, IntKind.max, IntKind.signed, IntKind.bits] using h x hx
theorem bytes_rd {l : List Int} (h : Bytes l) (i : Int) : 0 ≤ rd l i ∧ rd l i ≤ 255 := by
 unfold rd
 rw [List.getD_eq_getElem?_getD]
 cases e : l[i.toNat]? with
 | none => simp
 | some x => exact h x (List.mem_of_getElem? e)
theorem u64_range (x : Int) : 0 ≤ IntKind.u64.wrap x ∧ IntKind.u64.wrap x < 18446744073709551616 := by
 simp [IntKind.wrap, IntKind.bits, IntKind.signed]
 omega
theorem mask (x : Int) : 0 ≤ wrap64 (Go.bits .and .u64 (IntKind.u64.wrap x / 1099511627776) 255) ∧ wrap64 (Go.bits .and .u64 (IntKind.u64.wrap x / 1099511627776) 255) ≤ 255 := by
 have h := u64_range x
 generalize IntKind.u64.wrap x = y at h ⊢
 rw [u64_and _ _ (by omega) (by omega) (by omega) (by omega)]
 have hle : (y / 1099511627776).toNat &&& (255 : Int).toNat ≤ 255 := Nat.and_le_right
 unfold wrap64
 omega
def Cur (at_ : Int) (n : Nat) : Prop := 0 ≤ at_ ∧ at_ ≤ n
theorem next_some {l : List Int} (hl : Bytes l) {at_ sd : Int} {n : Nat} (hc : Cur at_ n) (hn : n < 4611686018427387904) :
 ∃ b at2 sd2, spec_l1Cur_next.f l at_ sd = some (b, at2, sd2) ∧ (0 ≤ b ∧ b ≤ 255) ∧ Cur at2 (n + 1) := by
 have hw : wrap64 (at_ + 1) = at_ + 1 := by have := hc.1; have := hc.2; unfold wrap64; omega
 have hc2 : Cur (at_ + 1) (n + 1) := ⟨by have := hc.1; omega, by have := hc.2; omega⟩
 have hb := bytes_rd hl at_
 have hb2 : wrap64 (rd l at_) = rd l at_ := by unfold wrap64; omega
 unfold spec_l1Cur_next.f
 rw [hw]
 by_cases h1 : at_ < (l.length : Int)
 · rw [if_pos h1, if_pos hc.1, if_pos (by omega)]
   exact ⟨_, _, _, rfl, by rw [hb2]; exact hb, hc2⟩
 · rw [if_neg h1]
   by_cases h2 : at_ + 1 ≤ (l.length : Int)
   · omega
   · rw [if_neg h2]
     exact ⟨_, _, _, rfl, mask _, hc2⟩
theorem pick_some {l : List Int} (hl : Bytes l) {at_ sd : Int} {n : Nat} (hc : Cur at_ n) (hn : n < 4611686018427387900) (m : Int) :
 ∃ x at2 sd2, spec_l1Cur_pick.f l at_ sd m = some (x, at2, sd2) ∧ (0 ≤ x ∧ (x = 0 ∨ x < m)) ∧ Cur at2 (n + 2) := by
 unfold spec_l1Cur_pick.f
 by_cases h1 : m ≤ 1
 · rw [if_pos h1]
   exact ⟨_, _, _, rfl, ⟨by omega, .inl rfl⟩, hc.1, by have := hc.2; omega⟩
 · rw [if_neg h1]
   obtain ⟨b, at2, sd2, e, hb, hc2⟩ := next_some hl hc (sd := sd) (by omega)
   rw [e]
   simp only [Option.bind_some]
   have hm0 : ¬ m = 0 := by omega
   by_cases h2 : m > 200
   · rw [if_pos h2]
     obtain ⟨b3, at3, sd3, e3, hb3, hc3⟩ := next_some hl hc2 (sd := sd2) (by omega)
     rw [e3]
     simp only [Option.bind_some]
     rw [if_neg hm0]
     have hw : wrap64 (wrap64 (b * 256) + b3) = b * 256 + b3 := by unfold wrap64; omega
     rw [hw, Int.tmod_eq_emod_of_nonneg (by omega)]
     exact ⟨_, _, _, rfl, ⟨Int.emod_nonneg _ hm0, .inr (Int.emod_lt_of_pos _ (by omega))⟩, hc3⟩
   · rw [if_neg h2, if_neg hm0, Int.tmod_eq_emod_of_nonneg hb.1]
     exact ⟨_, _, _, rfl, ⟨Int.emod_nonneg _ hm0, .inr (Int.emod_lt_of_pos _ (by omega))⟩, hc2.1, by have := hc2.2; omega⟩
end Go.Proofs.YtiegkjimpclmaaaGreatDoor.Pure
