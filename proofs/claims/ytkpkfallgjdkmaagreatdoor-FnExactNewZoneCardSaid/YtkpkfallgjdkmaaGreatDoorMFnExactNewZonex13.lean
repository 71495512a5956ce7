/- FnExactNewZone: part 14 of 29 of my texts for this claim, joined; the theorem stands in the last. Conditions: none beyond the statement's. -/
import Derived.Test.YtkpkfallgjdkmaaGreatDoorMFnExactNewZonex4
import Derived.Test.YtkpkfallgjdkmaaGreatDoorMFnExactNewZonex11
import Derived.Test.YtkpkfallgjdkmaaGreatDoorMFnExactNewZonex5
import Derived.Test.YtkpkfallgjdkmaaGreatDoorMFnExactNewZonex7
import Derived.Test.YtkpkfallgjdkmaaGreatDoorMFnExactNewZonex12
import Derived.Test.YtkpkfallgjdkmaaGreatDoorMFnExactNewZonex6
namespace Go.Proofs.YtkpkfallgjdkmaaGreatDoor.P
open Go.RowKit Go.Proofs.YtkpkfallgjdkmaaGreatDoorW.PrintWords Go.Proofs.YtkpkfallgjdkmaaGreatDoorW.PrintLast Go.Proofs.YtkpkfallgjdkmaaGreatDoorW.PrintMore
attribute [local go_sem] max2_int min2_int max_two min_two max_three min_three max_four min_four
set_option linter.unusedVariables false
set_option linter.unusedSimpArgs false
def laws_heldZone.f (k : Nat) (a0_0 : ByteArray) (a0_1 : Int) (l0_2 : List (S72)) (a1 : Int) : Option (Int) := (laws_heldRecordS.f k l0_2 a1).bind fun t637 => (if t637 < 0 then (some (-1)) else (some t637))
set_option maxHeartbeats 8000000 in
set_option maxRecDepth 100000 in
theorem laws_heldZone.calls (k : Nat) (a0_0 : ByteArray) (a0_1 : Int) (A0_2 : Option Addr) (c0_2 : Nat) (l0_2 : List (S72)) (a1 : Int) (r : Int) (w : World) (hr0_2 : Kd.C k72 w A0_2 l0_2.length l0_2) (hc0_2 : l0_2.length ≤ c0_2) (h : laws_heldZone.f k a0_0 a0_1 l0_2 a1 = some r) :
 Calls Tryz.prog 29 #[.agg #[.string a0_0, .int .i64 a0_1, .slice A0_2 l0_2.length c0_2], .int .i64 a1] w fun e w' => e = .returned (.int .i64 r) ∧ Below w.heap.size w w' := by
 have hu42 := Tryz.underlying42
 have HR0_2 := a0_ hr0_2
 have HC0_2 := a0_ hc0_2
 clear hr0_2 hc0_2
 have HB := a0_ (Below.refl w.heap.size w)
 have H : ((laws_heldRecordS.f k l0_2 a1).bind fun t637 => (if t637 < 0 then (some (-1)) else (some t637))) = some r := h
 clear h
 obtain ⟨t637, A30, H⟩ := Option.bind_eq_some_iff.mp H
 have A3 := a0_ A30
 clear A30
 by_cases c4 : t637 < 0
 case neg =>
  rw [if_neg c4] at H
  have c4b0 := decide_eq_false c4
  clear c4
  obtain rfl := Option.some.inj H
  go_enter Tryz.func29, Tryz.ntmps29
  go_wp2_with (first | ((with_reducible refine gate_dst (N := 2) rfl ?_); refine boxS_ 2 #[.string a0_0, .int .i64 a0_1, .slice A0_2 l0_2.length c0_2] 42 (fun gb636 hg w8 hbox hb => ?_); have n0_ := a0_ (below_step bq0_ hb); have n1_ := a0_ (hbox); have n2_ := a0_ (gw_ hg : w.heap.size ≤ gb636); have n3_ := n2_; clear HB; have HB := n0_; have BK636 := n1_; have GW636 := n2_; have GE636 := n3_; clear n0_ n1_ n2_ n3_; clear hb hbox hg; obtain ⟨z9_0, z9_1, z9_2, q9_0, q9_1, q9_2⟩ := bk3_ BK636.out) | ((with_reducible refine gate_callee (f := 42) rfl ?_); refine goesL_ (some 8) rfl rfl Tryz.func42 (by kernel_rfl) rfl #[.slice A0_2 l0_2.length c0_2, .int .i64 a1] rfl argsS_ ?_; (with_reducible refine (laws_heldRecordS.calls k _ _ l0_2 a1 t637 _ ?side1 ?side2 A3.out).mono ?_); (case side1 => exact kC_ HR0_2.out HB.out); (case side2 => exact HC0_2.out); rintro e w10 ⟨rfl, hb⟩; refine ⟨_, rfl, ?_⟩; replace BK636 := a0_ (bkB_ BK636 hb); replace HB := a0_ (below_step bq1_ hb); (try clear hb); (try clear hb2); (try clear hk); (try clear hi)))
  go_ret
  exact ⟨rr_, bq1_⟩
 rw [if_pos c4] at H
 have c4b0 := decide_eq_true c4
 clear c4
 obtain rfl := Option.some.inj H
 go_enter Tryz.func29, Tryz.ntmps29
 go_wp2_with (first | ((with_reducible refine gate_dst (N := 2) rfl ?_); refine boxS_ 2 #[.string a0_0, .int .i64 a0_1, .slice A0_2 l0_2.length c0_2] 42 (fun gb636 hg w5 hbox hb => ?_); have n0_ := a0_ (below_step bq0_ hb); have n1_ := a0_ (hbox); have n2_ := a0_ (gw_ hg : w.heap.size ≤ gb636); have n3_ := n2_; clear HB; have HB := n0_; have BK636 := n1_; have GW636 := n2_; have GE636 := n3_; clear n0_ n1_ n2_ n3_; clear hb hbox hg; obtain ⟨z6_0, z6_1, z6_2, q6_0, q6_1, q6_2⟩ := bk3_ BK636.out) | ((with_reducible refine gate_callee (f := 42) rfl ?_); refine goesL_ (some 8) rfl rfl Tryz.func42 (by kernel_rfl) rfl #[.slice A0_2 l0_2.length c0_2, .int .i64 a1] rfl argsS_ ?_; (with_reducible refine (laws_heldRecordS.calls k _ _ l0_2 a1 t637 _ ?side1 ?side2 A3.out).mono ?_); (case side1 => exact kC_ HR0_2.out HB.out); (case side2 => exact HC0_2.out); rintro e w7 ⟨rfl, hb⟩; refine ⟨_, rfl, ?_⟩; replace BK636 := a0_ (bkB_ BK636 hb); replace HB := a0_ (below_step bq1_ hb); (try clear hb); (try clear hb2); (try clear hk); (try clear hi)))
 go_ret
 exact ⟨rr_, bq1_⟩
mutual
def spec_l6Rule.l0 : Nat → ByteArray → List (S72) → Int → List (S72) → Int → Int → Option (Int)
 | 0, _, _, _, _, _, _ => none
 | k + 1, x0, x1, x5, x18, x19, x20 => if x20 < x19 then (if 0 ≤ x20 then (if x20 < (x18.length : Int) then ((spec_l1Below.f ((rd_T72 x18 x20).f0) x0).bind fun t698 => (if t698 = true then (if ((rd_T72 x18 x20).f1) = 6 then (if ((rd_T72 x18 x20).f0).toList = x0.toList then (spec_l6Rule.l0 k x0 x1 (wrap64 (x5 + 1)) x18 x19 (wrap64 (x20 + 1))) else (spec_l6Rule.l0 k x0 x1 (wrap64 ((wrap64 (x5 + 1)) + 1)) x18 x19 (wrap64 (x20 + 1)))) else (spec_l6Rule.l0 k x0 x1 x5 x18 x19 (wrap64 (x20 + 1)))) else (some 1))) else (none)) else (none)) else (if x5 = 1 then (spec_l6Rule.l1 k x0 x1 x1 (x1.length : Int) 0) else (some 2))
def spec_l6Rule.l1 : Nat → ByteArray → List (S72) → List (S72) → Int → Int → Option (Int)
 | 0, _, _, _, _, _ => none
 | k + 1, x0, x1, x43, x44, x45 => if x45 < x44 then (if 0 ≤ x45 then (if x45 < (x43.length : Int) then (if x45 > 0 then (if 0 ≤ (wrap64 (x45 - 1)) then (if (wrap64 (x45 - 1)) < (x1.length : Int) then (if ((rd_T72 x1 (wrap64 (x45 - 1))).f0).toList = ((rd_T72 x43 x45).f0).toList then (if ((rd_T72 x1 (wrap64 (x45 - 1))).f1) = ((rd_T72 x43 x45).f1) then (if ((rd_T72 x1 (wrap64 (x45 - 1))).f2) = ((rd_T72 x43 x45).f2) then (if ((rd_T72 x1 (wrap64 (x45 - 1))).f3).toList = ((rd_T72 x43 x45).f3).toList then (some 3) else (spec_l6Rule.l1 k x0 x1 x43 x44 (wrap64 (x45 + 1)))) else (some 3)) else (spec_l6Rule.l1 k x0 x1 x43 x44 (wrap64 (x45 + 1)))) else (spec_l6Rule.l1 k x0 x1 x43 x44 (wrap64 (x45 + 1)))) else (none)) else (none)) else (spec_l6Rule.l1 k x0 x1 x43 x44 (wrap64 (x45 + 1)))) else (none)) else (none)) else (spec_l6Rule.l2 k x0 x1 x1 (x1.length : Int) 0)
def spec_l6Rule.l2 : Nat → ByteArray → List (S72) → List (S72) → Int → Int → Option (Int)
 | 0, _, _, _, _, _ => none
 | k + 1, x0, x1, x97, x98, x99 => if x99 < x98 then (if 0 ≤ x99 then (if x99 < (x97.length : Int) then (if x99 ≤ (x1.length : Int) then ((some (x1.take (x99 : Int).toNat : List (S72))).bind fun y707 => (spec_l6Rule.l3 k x0 x1 x97 x98 x99 y707 (y707.length : Int) 0 ((rd_T72 x97 x99).f0) ((rd_T72 x97 x99).f1) ((rd_T72 x97 x99).f2) ((rd_T72 x97 x99).f3))) else (none)) else (none)) else (none)) else ((spec_l6Has.f k x1 x0 5).bind fun t713 => (if t713 = true then (some 5) else (spec_l6Rule.l4 k x0 x1 x1 (x1.length : Int) 0)))
def spec_l6Rule.l3 : Nat → ByteArray → List (S72) → List (S72) → Int → Int → List (S72) → Int → Int → ByteArray → Int → Int → ByteArray → Option (Int)
 | 0, _, _, _, _, _, _, _, _, _, _, _, _ => none
 | k + 1, x0, x1, x97, x98, x99, x106, x107, x108, x707000, x707001, x707002, x707003 => if x108 < x107 then (if 0 ≤ x108 then (if x108 < (x106.length : Int) then (if ((rd_T72 x106 x108).f0).toList = x707000.toList then (if ((rd_T72 x106 x108).f1) = 5 then (some 4) else (if x707001 = 5 then (some 4) else (spec_l6Rule.l3 k x0 x1 x97 x98 x99 x106 x107 (wrap64 (x108 + 1)) x707000 x707001 x707002 x707003))) else (spec_l6Rule.l3 k x0 x1 x97 x98 x99 x106 x107 (wrap64 (x108 + 1)) x707000 x707001 x707002 x707003)) else (none)) else (none)) else (spec_l6Rule.l2 k x0 x1 x97 x98 (wrap64 (x99 + 1)))
def spec_l6Rule.l4 : Nat → ByteArray → List (S72) → List (S72) → Int → Int → Option (Int)
 | 0, _, _, _, _, _ => none
 | k + 1, x0, x1, x132, x133, x134 => if x134 < x133 then (if 0 ≤ x134 then (if x134 < (x132.length : Int) then ((spec_l6Cut.f k x0 x1 ((rd_T72 x132 x134).f0)).bind fun bt716 => (if bt716.2 = true then (if ((rd_T72 x132 x134).f1) = 1 then (spec_l6Rule.l4 k x0 x1 x132 x133 (wrap64 (x134 + 1))) else (if ((rd_T72 x132 x134).f1) = 2 then (if ((rd_T72 x132 x134).f0).toList = bt716.1.toList then (spec_l6Rule.l4 k x0 x1 x132 x133 (wrap64 (x134 + 1))) else (some 6)) else (some 6))) else (spec_l6Rule.l4 k x0 x1 x132 x133 (wrap64 (x134 + 1))))) else (none)) else (none)) else (some 0)
end
def spec_l6Rule.f (k : Nat) (a0 : ByteArray) (l1 : List (S72)) : Option (Int) := spec_l6Rule.l0 k a0 l1 0 l1 (l1.length : Int) 0
def laws_szZone.f (k : Nat) (a0_0 : ByteArray) (a0_1 : Int) (l0_2 : List (S71)) (a1 : Int) : Option (Int) := if (wrap64 (a1 - (a0_0.size : Int))) < 0 then (some (-1)) else ((laws_szRecordS.f k l0_2 (wrap64 (a1 - (a0_0.size : Int)))).bind fun t735 => (if t735 < 0 then (some (-1)) else (some t735)))
def laws_toZone.f (k : Nat) (a0_0 : ByteArray) (a0_1 : Int) (l0_2 : List (S71)) : Option (ByteArray × Int × (List (S72))) := (laws_toRecordS.f k l0_2).bind fun t754 => (some (a0_0, a0_1, t754))
end Go.Proofs.YtkpkfallgjdkmaaGreatDoor.P
namespace Go.Proofs.YtkpkfallgjdkmaaGreatDoor.Pure
open Go.RowKit Go.Proofs.YtkpkfallgjdkmaaGreatDoor.P Go.Proofs.YtkpkfallgjdkmaaGreatDoorW.PrintWords Go.Proofs.YtkpkfallgjdkmaaGreatDoorW.PrintLast
set_option linter.unusedVariables false
set_option linter.unusedSimpArgs false
theorem markT_loop : ∀ (n : Nat) (x : Int) (acc : ByteArray), x ≤ n → acc.size + n < 1099511627776 → ∃ t, Ev (fun k => laws_markText.l0 k x acc) t
 | n, x, acc, hx, ha => by
  by_cases h : x > 0
  · have hw : wrap64 (Int.tdiv x 10) = x / 10 := by
     rw [Int.tdiv_eq_ediv_of_nonneg (by omega)]
     unfold wrap64
     omega
    have hs : ∀ v : Int, (strOfNums [v]).size = 1 := fun v => by rw [strOfNums_size]; rfl
    match n, hx, ha with
    | 0, hx, ha => omega
    | n + 1, hx, ha =>
     obtain ⟨t, ht⟩ := markT_loop n (x / 10) (strOfNums [(wrap64 (48 + (Int.tmod x 10))) % 256] ++ acc) (by omega) (by rw [ByteArray.size_append, hs]; omega)
     refine ⟨t, Ev.step (fun k => ?_) ht⟩
     show laws_markText.l0 (k + 1) x acc = _
     conv => lhs; unfold laws_markText.l0
     rw [if_pos h, Option.bind_some, if_pos (by rw [hs]; omega), hw]
  · refine ⟨(⟨#[109]⟩ : ByteArray) ++ acc, Ev.step (f := fun _ => some _) (fun k => ?_) (Ev.now _)⟩
    show laws_markText.l0 (k + 1) x acc = _
    unfold laws_markText.l0
    rw [if_neg h, if_pos (by omega)]
theorem markT_some (x : Int) (hx : x < 549755813888) : ∃ t, Ev (fun k => laws_markText.f k x) t := by
 by_cases h : x ≤ 0
 · refine ⟨(⟨#[109, 48]⟩ : ByteArray), Ev.congr (fun k => ?_) (Ev.now _)⟩
   unfold laws_markText.f
   rw [if_pos h]
 · obtain ⟨t, ht⟩ := markT_loop x.toNat x (⟨#[]⟩ : ByteArray) (by omega) (by show 0 + x.toNat < _; omega)
   refine ⟨t, Ev.congr (fun k => ?_) ht⟩
   unfold laws_markText.f
   rw [if_neg h]
/-- The text of a mark. -/
noncomputable def markT (x : Int) : ByteArray := if h : x < 549755813888 then (markT_some x h).choose else ⟨#[]⟩
theorem markT_ev (x : Int) (h : x < 549755813888) : Ev (fun k => laws_markText.f k x) (markT x) := by
 unfold markT
 rw [dif_pos h]
 exact (markT_some x h).choose_spec
noncomputable def marks (a n : Nat) : List ByteArray := (List.range n).map fun j => markT ((a + j : Nat) : Int)
end Go.Proofs.YtkpkfallgjdkmaaGreatDoor.Pure
namespace Go.Proofs.YtkpkfallgjdkmaaGreatDoor.P
open Go.RowKit Go.Proofs.YtkpkfallgjdkmaaGreatDoorW.PrintWords Go.Proofs.YtkpkfallgjdkmaaGreatDoorW.PrintLast Go.Proofs.YtkpkfallgjdkmaaGreatDoorW.PrintMore
attribute [local go_sem] max2_int min2_int max_two min_two max_three min_three max_four min_four
set_option linter.unusedVariables false
set_option linter.unusedSimpArgs false
def spec_l6Apex.l0 : Nat → Bool → List ByteArray → Int → Int → Option (Bool)
 | 0, _, _, _, _ => none
 | k + 1, x4, x12, x13, x14 => if x14 < x13 then (if 0 ≤ x14 then (if x14 < (x12.length : Int) then (if x4 = true then (spec_l6Apex.l0 k ((rdOf ByteArray.empty x12 x14).toList != ([42] : List UInt8)) x12 x13 (wrap64 (x14 + 1))) else (spec_l6Apex.l0 k false x12 x13 (wrap64 (x14 + 1)))) else (none)) else (none)) else (some x4)
def spec_l6Apex.f (k : Nat) (a0 : ByteArray) : Option (Bool) := (spec_l1Labels.f k a0).bind fun bt487 => (spec_l6Apex.l0 k bt487.2 bt487.1 (bt487.1.length : Int) 0)
set_option maxHeartbeats 8000000 in
set_option maxRecDepth 100000 in
theorem spec_l6Apex.calls (k : Nat) (a0 : ByteArray) (r : Bool) (w : World) (h : spec_l6Apex.f k a0 = some r) :
 Calls Tryz.prog 55 #[.string a0] w fun e w' => e = .returned (.bool r) ∧ Below w.heap.size w w' := by
 have HB := a0_ (Below.refl w.heap.size w)
 have H : ((spec_l1Labels.f k a0).bind fun bt487 => (spec_l6Apex.l0 k bt487.2 bt487.1 (bt487.1.length : Int) 0)) = some r := h
 clear h
 obtain ⟨⟨t487, t488⟩, A20, H⟩ := Option.bind_eq_some_iff.mp H
 have A2 := a0_ A20
 clear A20
 have H' := a0_ H
 clear H
 go_enter Tryz.func55, Tryz.ntmps55
 go_wp2_with (first | ((with_reducible refine gate_callee (f := 81) rfl ?_); refine goesL_ (some 9) rfl rfl Tryz.func81 (by kernel_rfl) rfl #[.string a0] rfl argsS_ ?_; (with_reducible refine (spec_l1Labels.calls k a0 t487 t488 _ A2.out).mono ?_); rintro e w3 ⟨v489, rfl, ho0, hb⟩; refine ⟨_, rfl, ?_⟩; have HO490 := a0_ (Kd.R_lower ho0 (below_size bq0_)); replace HB := a0_ (below_step bq0_ hb); (try clear hb); (try clear hb2); (try clear hk); (try clear hi); (try clear ho0); obtain ⟨Ao4, co4, eo4⟩ := Kd.R_slice HO490.out; subst eo4))
 go_loopg [4, 14] k (fun kq v4 v14 w' => ∃ (x4_1 : Bool) (x14_1 : Int), v4 = .bool x4_1 ∧ v14 = .int .i64 x14_1 ∧ Aside0 (spec_l6Apex.l0 kq x4_1 t487 (t487.length : Int) x14_1 = some r) ∧ Aside0 (kq ≤ k) ∧ Aside0 (Kd.R Kd.string 9 w' w.heap.size (fun _ => True) (.slice Ao4 t487.length co4) t487) ∧ Aside0 (Below w.heap.size w w'))
 case atStart => exact ⟨(t488), (0), rs_, rs_, H', ⟨Nat.le_refl _⟩, ⟨by (with_reducible repeat (first | apply Kd.R_alloc | apply Kd.R_drewN | apply Kd.R_drew)); exact HO490.out⟩, ⟨bq0_⟩⟩
 case round =>
  clear H'
  try clear p2
  obtain ⟨x4_1, x14_1, rfl, rfl, HA, HK1, HO_12, HB⟩ := hrel
  cases gk with
  | zero => exact absurd HA.out (by simp [spec_l6Apex.l0])
  | succ k1 =>
   have H := HA.out
   clear HA
   simp only [spec_l6Apex.l0] at H
   by_cases c5 : x14_1 < (t487.length : Int)
   case neg =>
    rw [if_neg c5] at H
    have c5b0 := decide_eq_false c5
    clear c5
    obtain rfl := Option.some.inj H
    go_wp2
    go_ret
    exact ⟨rr_, bq0_⟩
   rw [if_pos c5] at H
   have c5b0 := decide_eq_true c5
   clear c5
   by_cases c6 : 0 ≤ x14_1
   case neg =>
    rw [if_neg c6] at H
    exact absurd H (by simp)
   rw [if_pos c6] at H
   have c6b0 := decide_eq_true c6
   clear c6
   by_cases c7 : x14_1 < (t487.length : Int)
   case neg =>
    rw [if_neg c7] at H
    exact absurd H (by simp)
   rw [if_pos c7] at H
   have c7b0 := decide_eq_true c7
   clear c7
   by_cases c8 : x4_1 = true
   case pos =>
    subst c8
    rw [if_pos rfl] at H
    have H' := a0_ H
    clear H
    have p491 : 0 ≤ (x14_1 : Int) := dec_
    have q491 : x14_1 < (t487.length : Int) := dec_
    obtain ⟨ad491, e491, hx491_0⟩ := Kd.at_string (Kd.R_reads' HO_12.out).2.2 x14_1 p491 q491
    cases e491
    replace p491 := eq_true p491
    replace q491 := eq_true q491
    go_wp2
    go_roundg k1
    case measure => have := HK1.out; omega
    case rel => exact ⟨(((rdOf ByteArray.empty t487 x14_1).toList != ([42] : List UInt8))), (wrap64 (x14_1 + 1)), rs_, rs_, H', ⟨by have := HK1.out; omega⟩, ⟨by (with_reducible repeat (first | apply Kd.R_alloc | apply Kd.R_drewN | apply Kd.R_drew)); exact HO_12.out⟩, ⟨bq0_⟩⟩
   replace c8 := Bool.eq_false_iff.mpr c8
   subst c8
   rw [if_neg (show ¬ (false = true) by decide)] at H
   have H' := a0_ H
   clear H
   have p491 : 0 ≤ (x14_1 : Int) := dec_
   have q491 : x14_1 < (t487.length : Int) := dec_
   obtain ⟨ad491, e491, hx491_0⟩ := Kd.at_string (Kd.R_reads' HO_12.out).2.2 x14_1 p491 q491
   cases e491
   replace p491 := eq_true p491
   replace q491 := eq_true q491
   go_wp2
   go_roundg k1
   case measure => have := HK1.out; omega
   case rel => exact ⟨(false), (wrap64 (x14_1 + 1)), rs_, rs_, H', ⟨by have := HK1.out; omega⟩, ⟨by (with_reducible repeat (first | apply Kd.R_alloc | apply Kd.R_drewN | apply Kd.R_drew)); exact HO_12.out⟩, ⟨bq0_⟩⟩
def impl_serialText.f (a0 : Int) : Option (ByteArray) := (strconv_Itoa.f (Int.tmod a0 4294967296)).bind fun t615 => (some t615)
set_option maxHeartbeats 8000000 in
set_option maxRecDepth 100000 in
theorem impl_serialText.calls (a0 : Int) (r : ByteArray) (w : World) (h : impl_serialText.f a0 = some r) (hv_ : Vars w := by exact vv_) :
 Calls Tryz.prog 66 #[.int .i64 a0] w fun e w' => e = .returned (.string r) ∧ Below w.heap.size w w' := by
 have HV_ := a0_ hv_
 clear hv_
 have HB := a0_ (Below.refl w.heap.size w)
 have H : ((strconv_Itoa.f (Int.tmod a0 4294967296)).bind fun t615 => (some t615)) = some r := h
 clear h
 obtain ⟨t615, A20, H⟩ := Option.bind_eq_some_iff.mp H
 have A2 := a0_ A20
 clear A20
 obtain rfl := Option.some.inj H
 go_enter Tryz.func66, Tryz.ntmps66
 go_wp2_with (first | ((with_reducible refine gate_callee (f := 94) rfl ?_); refine goesL_ (some 5) rfl rfl Tryz.func94 (by kernel_rfl) rfl #[.int .i64 (Int.tmod a0 4294967296)] rfl argsS_ ?_; (with_reducible refine (strconv_Itoa.calls (Int.tmod a0 4294967296) t615 _ A2.out).mono ?_); rintro e w3 ⟨rfl, hb⟩; refine ⟨_, rfl, ?_⟩; replace HB := a0_ (below_step bq0_ hb); (try clear hb); (try clear hb2); (try clear hk); (try clear hi)))
 go_ret
 exact ⟨rr_, bq0_⟩
end Go.Proofs.YtkpkfallgjdkmaaGreatDoor.P
namespace Go.Proofs.YtkpkfallgjdkmaaGreatDoor.P
open Go.RowKit Go.Proofs.YtkpkfallgjdkmaaGreatDoorW.PrintWords Go.Proofs.YtkpkfallgjdkmaaGreatDoorW.PrintLast Go.Proofs.YtkpkfallgjdkmaaGreatDoorW.PrintMore
set_option linter.unusedVariables false
theorem within_eq (n a b : Int) : impl_within.f n a b = some (decide (a ≤ n ∧ n ≤ b)) := by
 unfold impl_within.f
 by_cases h : n ≥ a
 · rw [if_pos h]; congr 1; rw [decide_eq_decide]; omega
 · rw [if_neg h]; congr 1; rw [eq_comm, decide_eq_false_iff_not]; omega
theorem cutset_byte (b : UInt8) : (([97, 98, 99, 100, 101, 102, 103, 104, 105, 106, 107, 108, 109, 110, 111, 112, 113, 114, 115, 116, 117, 118, 119, 120, 121, 122, 48, 49, 50, 51, 52, 53, 54, 55, 56, 57, 45, 95] : List UInt8).contains b) = labelByte b := by
 have h : ∀ n : Fin 256, (([97, 98, 99, 100, 101, 102, 103, 104, 105, 106, 107, 108, 109, 110, 111, 112, 113, 114, 115, 116, 117, 118, 119, 120, 121, 122, 48, 49, 50, 51, 52, 53, 54, 55, 56, 57, 45, 95] : List UInt8).contains (UInt8.ofFin n)) = labelByte (UInt8.ofFin n) := by decide +kernel
 exact h b.toFin
theorem isLabel_eq (s : ByteArray) : impl_isLabel.f s = some (isLabelL s.data.toList) := by
 unfold impl_isLabel.f isLabelL
 rw [Lib.toList_data, within_eq]
 by_cases h0 : s.data.toList = [42]
 · rw [if_pos h0, h0]; rfl
 · rw [if_neg h0, show (s.data.toList == [42]) = false from beq_eq_false_iff_ne.mpr h0, Bool.false_or]
   simp only [Option.bind_some]
   have hl : decide ((1 : Int) ≤ (s.size : Int) ∧ (s.size : Int) ≤ 20) = decide (1 ≤ s.data.toList.length ∧ s.data.toList.length ≤ 20) := by
    rw [decide_eq_decide, size_len]; omega
   rw [hl]
   by_cases h1 : 1 ≤ s.data.toList.length ∧ s.data.toList.length ≤ 20
   · rw [decide_eq_true h1, if_pos rfl, Bool.true_and]
     unfold strings_Trim.f
     rw [if_pos (by rw [size_len]; omega), if_pos (by decide), if_pos (by decide)]
     simp only [Option.bind_some]
     congr 1
     rw [Lib.toList_data, mkB_data]
     have ht := trimS_nil s.data.toList [97, 98, 99, 100, 101, 102, 103, 104, 105, 106, 107, 108, 109, 110, 111, 112, 113, 114, 115, 116, 117, 118, 119, 120, 121, 122, 48, 49, 50, 51, 52, 53, 54, 55, 56, 57, 45, 95]
     have ha : s.data.toList.all (([97, 98, 99, 100, 101, 102, 103, 104, 105, 106, 107, 108, 109, 110, 111, 112, 113, 114, 115, 116, 117, 118, 119, 120, 121, 122, 48, 49, 50, 51, 52, 53, 54, 55, 56, 57, 45, 95] : List UInt8).contains ·) = s.data.toList.all labelByte := by
      congr 1
      funext b
      exact cutset_byte b
     rw [ha] at ht
     show (Lib.trimS s.data.toList [97, 98, 99, 100, 101, 102, 103, 104, 105, 106, 107, 108, 109, 110, 111, 112, 113, 114, 115, 116, 117, 118, 119, 120, 121, 122, 48, 49, 50, 51, 52, 53, 54, 55, 56, 57, 45, 95] == []) = _
     cases hb : s.data.toList.all labelByte with
     | true => rw [ht.2 hb]; rfl
     | false =>
      rw [beq_eq_false_iff_ne]
      intro h
      rw [ht.1 h] at hb
      cases hb
   · rw [decide_eq_false h1]
     rfl
theorem labelsOf_eq (s : ByteArray) (h : s.size < 4294967281) : impl_labelsOf.f s = some ((labelsL s.data.toList).map mkB) := by
 unfold impl_labelsOf.f labelsL strings_Split.f
 rw [Lib.toList_data]
 by_cases h0 : s.data.toList = []
 · rw [if_pos h0, if_pos h0]; rfl
 · rw [if_neg h0, if_neg h0, if_pos (show (⟨#[46]⟩ : ByteArray).size = 1 from rfl), if_pos h]; rfl
theorem good_closure (x : ByteArray) (W : World) : Calls Tryz.prog 101 #[.string x] W fun e W' => e = .returned (.bool (!isLabelL x.data.toList)) ∧ Below W.heap.size W W' :=
 impl_GoodName_1.calls x _ W (by unfold impl_GoodName_1.f; rw [isLabel_eq]; rfl)
def impl_GoodName.f (s : ByteArray) : Option Bool := some (goodL s.data.toList)
set_option maxHeartbeats 4000000 in
theorem impl_GoodName.calls (a0 : ByteArray) (r : Bool) (w : World) (h : impl_GoodName.f a0 = some r) :
 Calls Tryz.prog 72 #[.string a0] w fun e w' => e = .returned (.bool r) ∧ Below w.heap.size w w' := by
 have HG : Aside0 (goodL a0.data.toList = r) := ⟨Option.some.inj h⟩
 clear h
 by_cases h1 : 60 < a0.size
 · have hg : goodL a0.data.toList = false := by
    unfold goodL
    rw [decide_eq_false (by rw [← size_len]; omega)]
    rfl
   obtain rfl := hg.symm.trans HG.out
   have h2 : decide (60 < a0.size) = true := decide_eq_true h1
   have h3 : decide ((60 : Int) < (a0.size : Int)) = true := decide_eq_true (by omega)
   clear HG hg h1
   go_enter Tryz.func72, Tryz.ntmps72
   go_wp2
   go_ret
   exact ⟨rfl, Below.refl _ _⟩
 · have h2 : decide (60 < a0.size) = false := decide_eq_false h1
   have h3 : decide ((60 : Int) < (a0.size : Int)) = false := decide_eq_false (by omega)
   have cl := impl_labelsOf.calls a0 _ w (labelsOf_eq a0 (by omega))
   have eg : ∀ args w, (callFunc 101 args).run Tryz.prog w = .ok (.enter 101 args) w := enters_of Tryz.func101 (by kernel_rfl) rfl
   have cc := fun A c W hr => contains_str A c ((labelsL a0.data.toList).map mkB) 101 #[] (fun x => !isLabelL x.data.toList) W hr eg (fun x _ W' _ => good_closure x W')
   have hany : ((labelsL a0.data.toList).map mkB).any (fun x => !isLabelL x.data.toList) = !(labelsL a0.data.toList).all isLabelL := by
    rw [List.any_map, List.not_all_eq_any_not]
    simp [Function.comp_def, mkB_data]
   have hlen : ((labelsL a0.data.toList).map mkB).length = (labelsL a0.data.toList).length := List.length_map ..
   have hgd : goodL a0.data.toList = (decide ((labelsL a0.data.toList).length ≤ 8) && (labelsL a0.data.toList).all isLabelL) := by
    unfold goodL
    rw [decide_eq_true (by rw [← size_len]; omega), Bool.true_and]
   rw [hany] at cc
   rw [hgd] at HG
   generalize (labelsL a0.data.toList).map mkB = ls at cl cc hlen
   generalize (labelsL a0.data.toList).length = n at hlen HG
   generalize (labelsL a0.data.toList).all isLabelL = b at cc HG
   clear h1 hany hgd
   by_cases h8 : ls.length ≤ 8
   · have h8a : decide (ls.length ≤ 8) = true := decide_eq_true h8
     have h8b : decide ((ls.length : Int) ≤ 8) = true := decide_eq_true (by omega)
     have hr : b = r := by
      have := HG.out
      rwa [decide_eq_true (by omega), Bool.true_and] at this
     subst hr
     clear HG hlen h8
     go_enter Tryz.func72, Tryz.ntmps72
     go_wp2_with (first | (go_at_call 99; refine cl.mono ?_; rintro e w1 ⟨v, rfl, hR, hb⟩; obtain ⟨A, c, rfl⟩ := Kd.R_slice hR; have hC := (Kd.R_reads' hR).2.2) | (go_at_call 100; refine (cc A c _ hC).mono ?_; rintro e w2 ⟨rfl, hb2⟩))
     go_ret
     exact ⟨by simp, below_then hb hb.size hb2⟩
   · have h8a : decide (ls.length ≤ 8) = false := decide_eq_false h8
     have h8b : decide ((ls.length : Int) ≤ 8) = false := decide_eq_false (by omega)
     have hr : false = r := by
      have := HG.out
      rwa [decide_eq_false (by omega), Bool.false_and] at this
     subst hr
     clear HG hlen h8
     go_enter Tryz.func72, Tryz.ntmps72
     go_wp2_with (first | (go_at_call 99; refine cl.mono ?_; rintro e w1 ⟨v, rfl, hR, hb⟩; obtain ⟨A, c, rfl⟩ := Kd.R_slice hR; have hC := (Kd.R_reads' hR).2.2))
     go_ret
     exact ⟨rfl, hb⟩
end Go.Proofs.YtkpkfallgjdkmaaGreatDoor.P
namespace Go.Proofs.YtkpkfallgjdkmaaGreatDoor.P
open Go.RowKit Go.Proofs.YtkpkfallgjdkmaaGreatDoorW.PrintWords Go.Proofs.YtkpkfallgjdkmaaGreatDoorW.PrintLast Go.Proofs.YtkpkfallgjdkmaaGreatDoorW.PrintMore
attribute [local go_sem] max2_int min2_int max_two min_two max_three min_three max_four min_four
set_option linter.unusedVariables false
set_option linter.unusedSimpArgs false
def spec_GoodName.f (k : Nat) (a0 : ByteArray) : Option (Bool) := (spec_l1Labels.f k a0).bind fun bt113 => (some bt113.2)
end Go.Proofs.YtkpkfallgjdkmaaGreatDoor.P
namespace Go.Proofs.YtkpkfallgjdkmaaGreatDoor.P
open Go.RowKit Go.Proofs.YtkpkfallgjdkmaaGreatDoorW.PrintWords Go.Proofs.YtkpkfallgjdkmaaGreatDoorW.PrintLast Go.Proofs.YtkpkfallgjdkmaaGreatDoorW.PrintMore
attribute [local go_sem] max2_int min2_int max_two min_two max_three min_three max_four min_four
set_option linter.unusedVariables false
set_option linter.unusedSimpArgs false
attribute [local go_sem] gtr_less
mutual
def spec_l1Compare.l0 : Nat → List ByteArray → List ByteArray → Int → Option (Int)
 | 0, _, _, _ => none
 | k + 1, x5, x7, x9 => if x9 ≤ (x5.length : Int) then (spec_l1Compare.j1 k x5 x7 x9 (decide (x9 ≤ (x7.length : Int)))) else (spec_l1Compare.j1 k x5 x7 x9 false)
def spec_l1Compare.j1 : Nat → List ByteArray → List ByteArray → Int → Bool → Option (Int)
 | 0, _, _, _, _ => none
 | k + 1, x5, x7, x9, x31 => if x31 = true then (if 0 ≤ (wrap64 ((x5.length : Int) - x9)) then (if (wrap64 ((x5.length : Int) - x9)) < (x5.length : Int) then (if 0 ≤ (wrap64 ((x7.length : Int) - x9)) then (if (wrap64 ((x7.length : Int) - x9)) < (x7.length : Int) then (if (Op.bytesLess ((rdOf ByteArray.empty x5 (wrap64 ((x5.length : Int) - x9))).toList) ((rdOf ByteArray.empty x7 (wrap64 ((x7.length : Int) - x9))).toList)) = true then (some (-1)) else (if (Op.bytesLess ((rdOf ByteArray.empty x7 (wrap64 ((x7.length : Int) - x9))).toList) ((rdOf ByteArray.empty x5 (wrap64 ((x5.length : Int) - x9))).toList)) = true then (some 1) else (spec_l1Compare.l0 k x5 x7 (wrap64 (x9 + 1))))) else (none)) else (none)) else (none)) else (none)) else (if (x5.length : Int) < (x7.length : Int) then (some (-1)) else (if (x5.length : Int) > (x7.length : Int) then (some 1) else (some 0)))
end
def spec_l1Compare.f (k : Nat) (a0 : ByteArray) (a1 : ByteArray) : Option (Int) := (spec_l1Labels.f k a0).bind fun bt665 => ((spec_l1Labels.f k a1).bind fun bt669 => (spec_l1Compare.l0 k bt665.1 bt669.1 1))
end Go.Proofs.YtkpkfallgjdkmaaGreatDoor.P
namespace Go.Proofs.YtkpkfallgjdkmaaGreatDoor.P
open Go.RowKit Go.Proofs.YtkpkfallgjdkmaaGreatDoorW.PrintWords Go.Proofs.YtkpkfallgjdkmaaGreatDoorW.PrintLast Go.Proofs.YtkpkfallgjdkmaaGreatDoorW.PrintMore
attribute [local go_sem] max2_int min2_int max_two min_two max_three min_three max_four min_four
set_option linter.unusedVariables false
set_option linter.unusedSimpArgs false
def impl_compareNames.f (k : Nat) (a0 : ByteArray) (a1 : ByteArray) : Option (Int) := (impl_labelsOf.f a0).bind fun t566 => ((impl_labelsOf.f a1).bind fun t569 => ((slices_Reverse_string_string.f k t566).bind fun t572 => ((slices_Reverse_string_string.f k t569).bind fun t573 => ((slices_Compare_string_string.f k t572 t573).bind fun t574 => (some t574)))))
set_option maxHeartbeats 8000000 in
set_option maxRecDepth 100000 in
theorem impl_compareNames.calls (k : Nat) (a0 : ByteArray) (a1 : ByteArray) (r : Int) (w : World) (h : impl_compareNames.f k a0 a1 = some r) :
 Calls Tryz.prog 150 #[.string a0, .string a1] w fun e w' => e = .returned (.int .i64 r) ∧ Below w.heap.size w w' := by
 have HB := a0_ (Below.refl w.heap.size w)
 have H : ((impl_labelsOf.f a0).bind fun t566 => ((impl_labelsOf.f a1).bind fun t569 => ((slices_Reverse_string_string.f k t566).bind fun t572 => ((slices_Reverse_string_string.f k t569).bind fun t573 => ((slices_Compare_string_string.f k t572 t573).bind fun t574 => (some t574)))))) = some r := h
 clear h
 obtain ⟨t566, A30, H⟩ := Option.bind_eq_some_iff.mp H
 have A3 := a0_ A30
 clear A30
 obtain ⟨t569, A40, H⟩ := Option.bind_eq_some_iff.mp H
 have A4 := a0_ A40
 clear A40
 obtain ⟨t572, A50, H⟩ := Option.bind_eq_some_iff.mp H
 have A5 := a0_ A50
 clear A50
 obtain ⟨t573, A60, H⟩ := Option.bind_eq_some_iff.mp H
 have A6 := a0_ A60
 clear A60
 obtain ⟨t574, A70, H⟩ := Option.bind_eq_some_iff.mp H
 have A7 := a0_ A70
 clear A70
 obtain rfl := Option.some.inj H
 go_enter Tryz.func150, Tryz.ntmps150
 go_wp2_with (first | ((with_reducible refine gate_callee (f := 99) rfl ?_); refine goesL_ (some 8) rfl rfl Tryz.func99 (by kernel_rfl) rfl #[.string a0] rfl argsS_ ?_; (with_reducible refine (impl_labelsOf.calls a0 t566 _ A3.out).mono ?_); rintro e w8 ⟨v567, rfl, ho0, hb⟩; refine ⟨_, rfl, ?_⟩; have HO568 := a0_ (Kd.R_lower ho0 (below_size bq0_)); replace HB := a0_ (below_step bq0_ hb); (try clear hb); (try clear hb2); (try clear hk); (try clear hi); (try clear ho0)) | ((with_reducible refine gate_callee (f := 99) rfl ?_); refine goesL_ (some 10) rfl rfl Tryz.func99 (by kernel_rfl) rfl #[.string a1] rfl argsS_ ?_; (with_reducible refine (impl_labelsOf.calls a1 t569 _ A4.out).mono ?_); rintro e w9 ⟨v570, rfl, ho0, hb⟩; refine ⟨_, rfl, ?_⟩; have n0_ := a0_ (Kd.R_elder' (kR_ HO568.out) (Kd.R_base ho0) hb); have n1_ := a0_ (Kd.R_lower (Kd.R_new' ho0 (Kd.R_lt (kR_ HO568.out))) (below_size bq0_)); have n2_ := a0_ (below_step bq0_ hb); clear HO568; clear HB; have HO568 := n0_; have HO571 := n1_; have HB := n2_; clear n0_ n1_ n2_; (try clear hb); (try clear hb2); (try clear hk); (try clear hi); (try clear ho0); obtain ⟨Ao10, co10, eo10⟩ := Kd.R_slice HO568.out; subst eo10) | ((with_reducible refine gate_callee (f := 170) rfl ?_); refine goesL_ (some 12) rfl rfl Tryz.func170 (by kernel_rfl) rfl #[.slice Ao10 t566.length co10] rfl argsS_ ?_; (with_reducible refine (slices_Reverse_string_string.calls k (fun k_ => some k_ = (.slice Ao10 t566.length co10 : Value).ownBlock) (.slice Ao10 t566.length co10) t566 t572 w _ ?side1 ?side2 A5.out).mono ?_); (case side1 => repeat (first | (with_reducible first | exact HB.out | apply below_alloc | apply pw_below_drewN | apply below_drew1) | exact HB.out)); (case side2 => exact Kd.R_tight rfl HO568.out); rintro e w11 ⟨rfl, hy0, hb, hkp⟩; refine ⟨_, rfl, ?_⟩; replace HO568 := a0_ (Kd.R_reok rfl hy0 (fun k_ e_ => HO568.out.1 k_ e_)); replace HO571 := a0_ (Kd.R_mono (ok' := fun k_ => nw_ k_ Ao10 t566.length co10) (Kd.R_keptB (HO571.out) hkp (fun k_ hk_ hs_ => (hk_.2) hs_)) (fun k_ hk_ => hk_.1.2)); replace HB := a0_ (hb); (try clear hb); (try clear hkp); (try clear hy0); obtain ⟨Ao12, co12, eo12⟩ := Kd.R_slice HO571.out; subst eo12) | ((with_reducible refine gate_callee (f := 170) rfl ?_); refine goesL_ (some 14) rfl rfl Tryz.func170 (by kernel_rfl) rfl #[.slice Ao12 t569.length co12] rfl argsS_ ?_; (with_reducible refine (slices_Reverse_string_string.calls k (fun k_ => some k_ = (.slice Ao12 t569.length co12 : Value).ownBlock) (.slice Ao12 t569.length co12) t569 t573 w _ ?side1 ?side2 A6.out).mono ?_); (case side1 => repeat (first | (with_reducible first | exact HB.out | apply below_alloc | apply pw_below_drewN | apply below_drew1) | exact HB.out)); (case side2 => exact Kd.R_tight rfl HO571.out); rintro e w13 ⟨rfl, hy0, hb, hkp⟩; refine ⟨_, rfl, ?_⟩; replace HO568 := a0_ (Kd.R_mono (ok' := fun k_ => nw_ k_ Ao12 t569.length co12) (Kd.R_keptB (HO568.out) hkp (fun k_ hk_ hs_ => (hk_.2) hs_)) (fun k_ hk_ => hk_.1.2)); replace HO571 := a0_ (Kd.R_reok rfl hy0 (fun k_ e_ => HO571.out.1 k_ e_)); replace HB := a0_ (hb); (try clear hb); (try clear hkp); (try clear hy0)) | ((with_reducible refine gate_callee (f := 171) rfl ?_); refine goesL_ (some 17) rfl rfl Tryz.func171 (by kernel_rfl) rfl #[.slice Ao10 t572.length co10, .slice Ao12 t573.length co12] rfl (by (try simp only [List.map_toArray, List.map_cons, List.map_nil]); first | done | (rw [show t572.length = t566.length from (Kd.R_reads' HO568.out).1.symm, show t573.length = t569.length from (Kd.R_reads' HO571.out).1.symm] <;> rfl) | rfl | (simp only [List.length_drop, List.length_take]; rfl)) ?_; (with_reducible refine (slices_Compare_string_string.calls k _ _ t572 _ _ t573 t574 _ ?side1 ?side2 ?side3 ?side4 A7.out).mono ?_); (case side1 => exact kD_ (Kd.R_reads' HO568.out).2.2); (case side2 => rw [show t572.length = t566.length from (Kd.R_reads' HO568.out).1.symm]; exact (Kd.R_reads' HO568.out).2.1); (case side3 => exact kD_ (Kd.R_reads' HO571.out).2.2); (case side4 => rw [show t573.length = t569.length from (Kd.R_reads' HO571.out).1.symm]; exact (Kd.R_reads' HO571.out).2.1); rintro e w' ⟨rfl, ⟨nd, rfl⟩⟩; refine ⟨_, rfl, ?_⟩))
 go_ret
 exact ⟨rr_, bq0_⟩
def spec_l2Bytes.l0 : Nat → ByteArray → List ByteArray → Int → Int → Option (ByteArray)
 | 0, _, _, _, _ => none
 | k + 1, x5, x13, x14, x15 => if x15 < x14 then (if 0 ≤ x15 then (if x15 < (x13.length : Int) then ((some (([(((rdOf ByteArray.empty x13 x15).size : Int)) % 256] : List Int) : List Int)).bind fun y137 => (if (strOfNums y137).size + (rdOf ByteArray.empty x13 x15).size ≤ 9223372036854775807 then (if x5.size + ((strOfNums y137) ++ (rdOf ByteArray.empty x13 x15)).size ≤ 9223372036854775807 then (spec_l2Bytes.l0 k (x5 ++ ((strOfNums y137) ++ (rdOf ByteArray.empty x13 x15))) x13 x14 (wrap64 (x15 + 1))) else (none)) else (none))) else (none)) else (none)) else (if x5.size + 1 ≤ 9223372036854775807 then (some (x5 ++ (⟨#[0]⟩ : ByteArray))) else (none))
def spec_l2Bytes.f (k : Nat) (a0 : ByteArray) : Option (ByteArray) := (spec_l1Labels.f k a0).bind fun bt132 => (spec_l2Bytes.l0 k (⟨#[]⟩ : ByteArray) bt132.1 (bt132.1.length : Int) 0)
theorem spec_l2Bytes.mono_l : ∀ k, (∀ y0 y1 y2 y3, LeO (spec_l2Bytes.l0 k y0 y1 y2 y3) (spec_l2Bytes.l0 (k + 1) y0 y1 y2 y3))
 | 0 => fun _ _ _ _ r h => by simp [spec_l2Bytes.l0] at h
 | k + 1 => by
  have ih0 := spec_l2Bytes.mono_l k
  · intro y0 y1 y2 y3
    unfold spec_l2Bytes.l0
    repeat' first
    | (with_reducible exact ih0 _ _ _ _)
    | (with_reducible exact spec_l1Labels.mono _ _)
    | (with_reducible exact LeO.refl _)
    | (with_reducible exact LeO.none _)
    | (with_reducible refine LeO.ite ?_ ?_)
    | (with_reducible refine LeO.bind ?_ (fun _ => ?_))
    | exact ih0 _ _ _ _
    | exact spec_l1Labels.mono _ _
    | exact LeO.none _
    | refine LeO.ite ?_ ?_
    | refine LeO.bind ?_ (fun _ => ?_)
theorem spec_l2Bytes.mono : ∀ a0 k, LeO (spec_l2Bytes.f k a0) (spec_l2Bytes.f (k + 1) a0) := by
 intro a0 k
 have ih0 := spec_l2Bytes.mono_l k
 unfold spec_l2Bytes.f
 repeat' first
  | (with_reducible exact ih0 _ _ _ _)
  | (with_reducible exact spec_l1Labels.mono _ _)
  | (with_reducible exact LeO.refl _)
  | (with_reducible exact LeO.none _)
  | (with_reducible refine LeO.ite ?_ ?_)
  | (with_reducible refine LeO.bind ?_ (fun _ => ?_))
  | exact ih0 _ _ _ _
  | exact spec_l1Labels.mono _ _
  | exact LeO.none _
  | refine LeO.ite ?_ ?_
  | refine LeO.bind ?_ (fun _ => ?_)
end Go.Proofs.YtkpkfallgjdkmaaGreatDoor.P
