/- FnExactRuleOf: part 22 of 26 of my texts for this claim, joined; the theorem stands in the last. Conditions: none beyond the statement's. -/
import Derived.Test.YtkpkfallgjdkmaaGreatDoorMFnExactRuleOfx14
import Derived.Test.YtkpkfallgjdkmaaGreatDoorMFnExactRuleOfx20
import Derived.Test.YtkpkfallgjdkmaaGreatDoorMFnExactRuleOfx2
import Derived.Test.YtkpkfallgjdkmaaGreatDoorMFnExactRuleOfx3
import Derived.Test.YtkpkfallgjdkmaaGreatDoorMFnExactRuleOfx17
namespace Go.Proofs.YtkpkfallgjdkmaaGreatDoor.P
open Go.RowKit Go.Proofs.YtkpkfallgjdkmaaGreatDoorW.PrintWords Go.Proofs.YtkpkfallgjdkmaaGreatDoorW.PrintLast Go.Proofs.YtkpkfallgjdkmaaGreatDoorW.PrintMore
set_option linter.unusedVariables false
set_option linter.unusedSimpArgs false
/-- A record, as a value. -/
def encR (x : S72) : Value := .agg #[.string x.f0, .int .i64 x.f1, .int .i64 x.f2, .string x.f3]
/-- What is asked of a predicate: where those ahead don't hold, it answers p, and what lay stays. -/
def PredR (g : Nat) (cb : Array Value) (p : S72 → Bool) (xs : List (S72)) (w : World) : Prop :=
  ∀ (j : Nat) (x : S72), xs[j]? = some x → (∀ (i : Nat) (y : S72), i < j → xs[i]? = some y → p y = false) → ∀ W, Below w.heap.size w W → Calls Tryz.prog g (#[encR x] ++ cb) W fun e W' => e = .returned (.bool (p x)) ∧ Below W.heap.size W W'
set_option maxHeartbeats 2000000 in
theorem index_rec (A : Option Addr) (c : Nat) (xs : List (S72)) (g : Nat) (cb : Array Value) (p : S72 → Bool) (w : World) (hr : Kd.C k72 w A xs.length xs)
    (eg : ∀ args w, (callFunc g args).run Tryz.prog w = .ok (.enter g args) w) (hp : PredR g cb p xs w) :
    Calls Tryz.prog 89 #[.slice A xs.length c, .func (.func g) #[] cb] w fun e w' => e = .returned (.int .i64 (idxP p xs 0)) ∧ Below w.heap.size w w' := by
  have hbig : xs.length ≤ 9223372036854775807 := hr.2.1
  go_enter Tryz.func89, Tryz.ntmps89
  go_wp2
  go_loopg [5, 8] xs.length (fun gg _ s8 wr => ∃ kk : Nat, kk ≤ xs.length ∧ xs.length - kk ≤ gg ∧ s8 = .int .i64 kk ∧ Aside0 (Below w.heap.size w wr) ∧ Aside0 (∀ j y, j < kk → xs[j]? = some y → p y = false))
  case atStart => exact ⟨0, Nat.zero_le _, by omega, rfl, ⟨Below.refl _ w⟩, ⟨fun j y hj => absurd hj (Nat.not_lt_zero _)⟩⟩
  case round =>
    obtain ⟨kk, hkk, hg, rfl, BW, AA⟩ := hrel
    by_cases hlt : kk < xs.length
    · have hltz : (kk : Int) < (xs.length : Int) := by omega
      obtain ⟨ad, e0, hx0, hx1, hx2, hx3⟩ := at_T72 hr (kk : Int) (by omega) hltz
      cases e0
      have l0 := (BW.out.cell (World.block_lt_of_cell? _ _ hx0)).trans hx0
      have l1 := (BW.out.cell (World.block_lt_of_cell? _ _ hx1)).trans hx1
      have l2 := (BW.out.cell (World.block_lt_of_cell? _ _ hx2)).trans hx2
      have l3 := (BW.out.cell (World.block_lt_of_cell? _ _ hx3)).trans hx3
      clear hx0 hx1 hx2 hx3
      simp only [Int.toNat_natCast] at l0 l1 l2 l3
      have hmem : xs[kk]? = some (rd_T72 xs kk) := by
        rw [List.getElem?_eq_getElem hlt]; simp [rd_T72, List.getElem?_eq_getElem hlt]
      have hcall := hp kk (rd_T72 xs kk) hmem AA.out wr BW.out
      clear hp
      generalize hy : rd_T72 xs kk = y at l0 l1 l2 l3 hcall hmem
      have B := Aside0.mk hmem
      clear hmem hy
      have hkn : ((kk : Int)).toNat = kk := by omega
      unfold encR at hcall
      cases hq : p y with
      | true =>
        rw [hq] at hcall
        go_wp2_with (go_at_fn g; refine hcall.mono ?_; rintro e w' ⟨rfl, hb'⟩)
        go_ret
        refine ⟨?_, below_then BW.out BW.out.size hb'⟩
        rw [idxP_hit p xs 0 kk y B.out hq AA.out]
        simp
      | false =>
        rw [hq] at hcall
        go_wp2_with (go_at_fn g; refine hcall.mono ?_; rintro e w' ⟨rfl, hb'⟩)
        go_roundg (xs.length - (kk + 1))
        case measure => omega
        case rel =>
          refine ⟨kk + 1, by omega, by omega, by go_num, ⟨below_then BW.out BW.out.size hb'⟩, ⟨fun j z hj hz => ?_⟩⟩
          by_cases e : j = kk
          · subst e
            rw [B.out] at hz
            cases hz
            exact hq
          · exact AA.out j z (by omega) hz
    · have hltz : ¬ (kk : Int) < (xs.length : Int) := by omega
      have hm : idxP p xs 0 = -1 := idxP_miss p xs 0 (fun y hy => by obtain ⟨j, hj, e⟩ := List.mem_iff_getElem.1 hy; exact AA.out j y (by omega) (by rw [List.getElem?_eq_getElem hj, e]))
      have HM := Aside0.mk hm
      clear hm
      go_wp2
      go_ret
      exact ⟨by rw [HM.out]; rfl, BW.out⟩
theorem contains_rec (A : Option Addr) (c : Nat) (xs : List (S72)) (g : Nat) (cb : Array Value) (p : S72 → Bool) (w : World) (hr : Kd.C k72 w A xs.length xs)
    (eg : ∀ args w, (callFunc g args).run Tryz.prog w = .ok (.enter g args) w) (hp : PredR g cb p xs w) :
    Calls Tryz.prog 59 #[.slice A xs.length c, .func (.func g) #[] cb] w fun e w' => e = .returned (.bool (xs.any p)) ∧ Below w.heap.size w w' := by
  rw [← idxP_any p xs 0 (by omega)]
  go_enter Tryz.func59, Tryz.ntmps59
  go_wp2_with (go_at_call 89; refine (index_rec A c xs g cb p _ hr eg hp).mono ?_; rintro e w' ⟨rfl, hb'⟩)
  go_ret
  exact ⟨rfl, hb'⟩
/-- All records are good; those behind the first bad one aren't looked at. -/
def impl_areRecords.f (k : Nat) : List (S72) → Option Bool
  | [] => some true
  | x :: xs => (impl_GoodRecord.f k x.f0 x.f1 x.f2 x.f3).bind fun g => (if g = true then impl_areRecords.f k xs else some false)
/-- That a record is not good. -/
def badP (k : Nat) (x : S72) : Bool := !((impl_GoodRecord.f k x.f0 x.f1 x.f2 x.f3).getD false)
end Go.Proofs.YtkpkfallgjdkmaaGreatDoor.P
namespace Go.Proofs.YtkpkfallgjdkmaaGreatDoor.P
open Go.RowKit Go.Proofs.YtkpkfallgjdkmaaGreatDoorW.PrintWords Go.Proofs.YtkpkfallgjdkmaaGreatDoorW.PrintLast Go.Proofs.YtkpkfallgjdkmaaGreatDoorW.PrintMore
attribute [local go_sem] max2_int min2_int max_two min_two max_three min_three max_four min_four
set_option linter.unusedVariables false
set_option linter.unusedSimpArgs false
def impl_at.l0 : Nat → ByteArray → Int → List (S72) → List (S72) → Int → Int → Option ((List (S72)))
  | 0, _, _, _, _, _, _ => none
  | k + 1, x1, x2, x7, x11, x12, x13 => if x13 < x12 then (if 0 ≤ x13 then (if x13 < (x11.length : Int) then (if ((rd_T72 x11 x13).f0).toList = x1.toList then (if x2 = 0 then (if x7.length < 2932031007402 then (impl_at.l0 k x1 x2 (x7 ++ [(⟨(rd_T72 x11 x13).f0, (rd_T72 x11 x13).f1, (rd_T72 x11 x13).f2, (rd_T72 x11 x13).f3⟩ : S72)]) x11 x12 (wrap64 (x13 + 1))) else (none)) else (if ((rd_T72 x11 x13).f1) = x2 then (if x7.length < 2932031007402 then (impl_at.l0 k x1 x2 (x7 ++ [(⟨(rd_T72 x11 x13).f0, (rd_T72 x11 x13).f1, (rd_T72 x11 x13).f2, (rd_T72 x11 x13).f3⟩ : S72)]) x11 x12 (wrap64 (x13 + 1))) else (none)) else (impl_at.l0 k x1 x2 x7 x11 x12 (wrap64 (x13 + 1))))) else (impl_at.l0 k x1 x2 x7 x11 x12 (wrap64 (x13 + 1)))) else (none)) else (none)) else (some x7)
def impl_at.f (k : Nat) (l0 : List (S72)) (a1 : ByteArray) (a2 : Int) : Option ((List (S72))) := impl_at.l0 k a1 a2 (([] : List (S72))) l0 (l0.length : Int) 0
set_option maxHeartbeats 8000000 in
set_option maxRecDepth 100000 in
theorem impl_at.calls (k : Nat) (A0 : Option Addr) (c0 : Nat) (l0 : List (S72)) (a1 : ByteArray) (a2 : Int) (r : List (S72)) (w : World) (hr0 : Kd.C k72 w A0 l0.length l0) (hc0 : l0.length ≤ c0) (h : impl_at.f k l0 a1 a2 = some r) :
    Calls Tryz.prog 62 #[.slice A0 l0.length c0, .string a1, .int .i64 a2] w fun e w' => ∃ v0_ : Value, e = .returned (v0_) ∧ Kd.R k72 72 w' w.heap.size (fun _ => True) v0_ r ∧ Below w.heap.size w w' := by
  have hu72 := Tryz.underlying72
  have HR0 := a0_ hr0
  have HC0 := a0_ hc0
  clear hr0 hc0
  have HB := a0_ (Below.refl w.heap.size w)
  have H : (impl_at.l0 k a1 a2 (([] : List (S72))) l0 (l0.length : Int) 0) = some r := h
  clear h
  obtain ⟨y603, hy603⟩ : ∃ y_ : List (S72), y_ = (([] : List (S72))) := ⟨_, rfl⟩
  replace H : (impl_at.l0 k a1 a2 y603 l0 (l0.length : Int) 0) = some r := by first | (rw [hy603]; with_reducible exact H) | (have H2_ := (Option.bind_some _ _).symm.trans H; rw [hy603]; with_reducible exact H2_) | (have H2_ := (Option.bind_some _ _).symm.trans H; with_reducible exact H2_) | with_reducible exact H | (rw [hy603]; exact H) | exact H
  have Ny603 := a0_ hy603
  clear hy603
  have H' := a0_ H
  clear H
  go_enter Tryz.func62, Tryz.ntmps62
  go_wp2_with (first | ((with_reducible refine gate_dst (N := 10) rfl ?_); refine Kd.R_lit k72 _ 72 ?hg (N := 10) ?hd (xs := ([] : List (S72))) (inner := []) (ok := fun _ => True) (okp := fun _ => True) ?hr ?hp (fun _ hk => hk) trivial (Below.refl _ _) (Nat.le_refl _) (by simp) ?_; (case hd => rfl); (case hg => rfl); (case hr => first | (go_simp; done) | (go_simp; rfl)); (case hp => exact (Reps.none _ _)); intro v604 w4 ho5 hb hg_ hnew_; clear hg_ hnew_; (first | rw [← Ny603.out] at ho5 | (simp only [Int.reduceToNat] at ho5; rw [← Ny603.out] at ho5)); have HO605 := a0_ (Kd.R_lower ho5 (below_size bq0_)); replace HB := a0_ (below_step bq0_ hb); clear hb ho5))
  go_loopg [7, 13] k (fun kq v7 v13 w' => ∃ (x7_1 : List (S72)) (x13_1 : Int), v13 = .int .i64 x13_1 ∧ Aside0 (impl_at.l0 kq a1 a2 x7_1 l0 (l0.length : Int) x13_1 = some r) ∧ Aside0 (kq ≤ k) ∧ Aside0 (Kd.R k72 72 w' w.heap.size (fun _ => True) v7 x7_1) ∧ Aside0 (Below w.heap.size w w'))
  case atStart => exact ⟨(y603), (0), (by first | rfl | (simp; done) | (simp [*]; done)), H', ⟨Nat.le_refl _⟩, ⟨by (with_reducible repeat (first | apply Kd.R_alloc | apply Kd.R_drewN | apply Kd.R_drew)); exact HO605.out⟩, ⟨by repeat (first | (with_reducible first | exact HB.out | apply below_alloc | apply pw_below_drewN | apply below_drew1) | exact HB.out)⟩⟩
  case round =>
    clear H'
    try clear p2
    obtain ⟨x7_1, x13_1, rfl, HA, HK1, HO_7, HB⟩ := hrel
    cases gk with
    | zero => exact absurd HA.out (by simp [impl_at.l0])
    | succ k1 =>
      have H := HA.out
      clear HA
      simp only [impl_at.l0] at H
      by_cases c6 : x13_1 < (l0.length : Int)
      · rw [if_pos c6] at H
        have c6b0 : decide (x13_1 < (l0.length : Int)) = true := decide_eq_true c6
        clear c6
        by_cases c7 : 0 ≤ x13_1
        · rw [if_pos c7] at H
          have c7b0 : decide (0 ≤ x13_1) = true := decide_eq_true c7
          clear c7
          by_cases c8 : x13_1 < (l0.length : Int)
          · rw [if_pos c8] at H
            have c8b0 : decide (x13_1 < (l0.length : Int)) = true := decide_eq_true c8
            clear c8
            by_cases c9 : ((rd_T72 l0 x13_1).f0).toList = a1.toList
            · rw [if_pos c9] at H
              have c9b0 : (((rd_T72 l0 x13_1).f0).toList == a1.toList) = true := beq_iff_eq.mpr c9
              have c9b1 : (((rd_T72 l0 x13_1).f0).toList != a1.toList) = false := bne_eq_false_iff_eq.mpr c9
              clear c9
              by_cases c10 : a2 = 0
              · rw [if_pos c10] at H
                have c10b0 : (a2 == 0) = true := beq_iff_eq.mpr c10
                have c10b1 : (a2 != 0) = false := bne_eq_false_iff_eq.mpr c10
                clear c10
                by_cases c11 : x7_1.length < 2932031007402
                · rw [if_pos c11] at H
                  have LMc11 := a0_ c11
                  clear c11
                  obtain ⟨y608, hy608⟩ : ∃ y_ : List (S72), y_ = (x7_1 ++ [(⟨(rd_T72 l0 x13_1).f0, (rd_T72 l0 x13_1).f1, (rd_T72 l0 x13_1).f2, (rd_T72 l0 x13_1).f3⟩ : S72)]) := ⟨_, rfl⟩
                  replace H : (impl_at.l0 k1 a1 a2 y608 l0 (l0.length : Int) (wrap64 (x13_1 + 1))) = some r := by first | (rw [hy608]; with_reducible exact H) | (have H2_ := (Option.bind_some _ _).symm.trans H; rw [hy608]; with_reducible exact H2_) | (have H2_ := (Option.bind_some _ _).symm.trans H; with_reducible exact H2_) | with_reducible exact H | (rw [hy608]; exact H) | exact H
                  have Ny608 := a0_ hy608
                  clear hy608
                  have H' := a0_ H
                  clear H
                  have p606 : 0 ≤ (x13_1 : Int) := dec_
                  have q606 : x13_1 < (l0.length : Int) := dec_
                  obtain ⟨ad606, e606, hx606_0, hx606_1, hx606_2, hx606_3⟩ := at_T72 HR0.out x13_1 p606 q606
                  cases e606
                  obtain ⟨hx606_0, hx606_1, hx606_2, hx606_3⟩ := up4_ HB.out hx606_0 hx606_1 hx606_2 hx606_3
                  replace p606 := eq_true p606
                  replace q606 := eq_true q606
                  go_wp2_with (first | ((with_reducible refine gate_dst (N := 9) rfl ?_); refine boxS_ 9 #[.string (⟨#[]⟩ : ByteArray), .int .i64 0, .int .i64 0, .string (⟨#[]⟩ : ByteArray)] 72 (fun gb607 hg w12 hbox hb => ?_); have n0_ := a0_ (Kd.R_below (Kd.R_elderB (kR_ HO_7.out) gb607 (Nat.le_of_eq hg.symm)) hb); have n1_ := a0_ (below_step bq0_ hb); have n2_ := a0_ (hbox); have n3_ := a0_ (gw_ hg : w.heap.size ≤ gb607); have n4_ := n3_; clear HO_7; clear HB; have HO_7 := n0_; have HB := n1_; have BK607 := n2_; have GW607 := n3_; have GE607 := n4_; clear n0_ n1_ n2_ n3_ n4_; clear hb hbox hg; obtain ⟨z13_0, z13_1, z13_2, z13_3, q13_0, q13_1, q13_2, q13_3⟩ := bk4_ BK607.out) | ((with_reducible refine gate_builtin (b := .append) (xs := #[.tmp 31, .tmp 33]) rfl ?_); at_builtin; refine Kd.R_append k72 (w0 := w) w.heap.size rfl (.tmp 31) (.tmp 33) 22 72 (.agg #[(.string ⟨#[]⟩), (.int .i64 0), (.int .i64 0), (.string ⟨#[]⟩)]) 48 rfl Tryz.underlying22 info72 rfl (by decide) (by omega) u7 x7_1 (⟨(rd_T72 l0 x13_1).f0, (rd_T72 l0 x13_1).f1, (rd_T72 l0 x13_1).f2, (rd_T72 l0 x13_1).f3⟩ : S72) [.string ((rd_T72 l0 x13_1).f0), .int .i64 ((rd_T72 l0 x13_1).f1), .int .i64 ((rd_T72 l0 x13_1).f2), .string ((rd_T72 l0 x13_1).f3)] (fun k_ => k_ ≠ gb607) (fun _ => False) rfl (by first | (go_simp; done) | (go_simp; rfl)) ?aP (fun _ hk => hk.elim) ?aF ?aO ?aB ?aS ?aL ?_; (case aP => exact k72_mkM _ _ _ (⟨(rd_T72 l0 x13_1).f0, (rd_T72 l0 x13_1).f1, (rd_T72 l0 x13_1).f2, (rd_T72 l0 x13_1).f3⟩ : S72)); (case aB => exact bq1_); (case aF => exact (fun k_ hk => Kd.freshB (g := gb607) (o := .cells #[.string ((rd_T72 l0 x13_1).f0), .int .i64 ((rd_T72 l0 x13_1).f1), .int .i64 ((rd_T72 l0 x13_1).f2), .string ((rd_T72 l0 x13_1).f3)] 72 (0, 0)) (put4_ BK607.out) k_ hk)); (case aO => exact (kR_ (Kd.R_mono (Kd.R_far (p := ⟨gb607, 3, none⟩) (Kd.R_far (p := ⟨gb607, 2, none⟩) (Kd.R_far (p := ⟨gb607, 1, none⟩) (Kd.R_far (p := ⟨gb607, 0, none⟩) (Kd.R_mono HO_7.out (fun k_ hk => (⟨hk, hk.2⟩ : _ ∧ k_ ≠ gb607))) (fun _ hk => hk.2) (.string ((rd_T72 l0 x13_1).f0))) (fun _ hk => hk.2) (.int .i64 ((rd_T72 l0 x13_1).f1))) (fun _ hk => hk.2) (.int .i64 ((rd_T72 l0 x13_1).f2))) (fun _ hk => hk.2) (.string ((rd_T72 l0 x13_1).f3))) (fun _ hk => hk.1.2)))); (case aS => exact (below_size bq1_)); (case aL => have := LMc11.out; omega); intro v609 w14 ho hb hg hat; rw [← Ny608.out] at ho; have n0_ := a0_ (blk_grown (g := gb607) (o := .cells #[.string ((rd_T72 l0 x13_1).f0), .int .i64 ((rd_T72 l0 x13_1).f1), .int .i64 ((rd_T72 l0 x13_1).f2), .string ((rd_T72 l0 x13_1).f3)] 72 (0, 0)) (put4_ BK607.out) hg (Kd.R_away HO_7.out (fun _ hk => hk.2))); have n1_ := a0_ (hb); have n2_ := a0_ (ho); clear BK607; clear HB; clear HO_7; have BK607 := n0_; have HB := n1_; have HO610 := n2_; clear n0_ n1_ n2_; clear ho hb hg hat))
                  go_roundg k1
                  case measure => have := HK1.out; omega
                  case rel => exact ⟨(y608), (wrap64 (x13_1 + 1)), (by first | rfl | (simp; done) | (simp [*]; done)), H', ⟨by have := HK1.out; omega⟩, ⟨by (with_reducible repeat (first | apply Kd.R_alloc | apply Kd.R_drewN | apply Kd.R_drew)); exact Kd.R_mono HO610.out (fun _ hk => trivial)⟩, ⟨by repeat (first | (with_reducible first | exact HB.out | apply below_alloc | apply pw_below_drewN | apply below_drew1 | refine below_set ?_ GE607.out) | exact HB.out)⟩⟩
                · rw [if_neg c11] at H
                  exact absurd H (by simp)
              · rw [if_neg c10] at H
                have c10b0 : (a2 == 0) = false := beq_eq_false_iff_ne.mpr c10
                have c10b1 : (a2 != 0) = true := bne_iff_ne.mpr c10
                by_cases c15 : ((rd_T72 l0 x13_1).f1) = a2
                · rw [if_pos c15] at H
                  have c15b0 : (((rd_T72 l0 x13_1).f1) == a2) = true := beq_iff_eq.mpr c15
                  have c15b1 : (((rd_T72 l0 x13_1).f1) != a2) = false := bne_eq_false_iff_eq.mpr c15
                  clear c15
                  by_cases c16 : x7_1.length < 2932031007402
                  · rw [if_pos c16] at H
                    have LMc16 := a0_ c16
                    clear c16
                    obtain ⟨y611, hy611⟩ : ∃ y_ : List (S72), y_ = (x7_1 ++ [(⟨(rd_T72 l0 x13_1).f0, (rd_T72 l0 x13_1).f1, (rd_T72 l0 x13_1).f2, (rd_T72 l0 x13_1).f3⟩ : S72)]) := ⟨_, rfl⟩
                    replace H : (impl_at.l0 k1 a1 a2 y611 l0 (l0.length : Int) (wrap64 (x13_1 + 1))) = some r := by first | (rw [hy611]; with_reducible exact H) | (have H2_ := (Option.bind_some _ _).symm.trans H; rw [hy611]; with_reducible exact H2_) | (have H2_ := (Option.bind_some _ _).symm.trans H; with_reducible exact H2_) | with_reducible exact H | (rw [hy611]; exact H) | exact H
                    have Ny611 := a0_ hy611
                    clear hy611
                    have H' := a0_ H
                    clear H
                    have p606 : 0 ≤ (x13_1 : Int) := dec_
                    have q606 : x13_1 < (l0.length : Int) := dec_
                    obtain ⟨ad606, e606, hx606_0, hx606_1, hx606_2, hx606_3⟩ := at_T72 HR0.out x13_1 p606 q606
                    cases e606
                    obtain ⟨hx606_0, hx606_1, hx606_2, hx606_3⟩ := up4_ HB.out hx606_0 hx606_1 hx606_2 hx606_3
                    replace p606 := eq_true p606
                    replace q606 := eq_true q606
                    go_wp2_with (first | ((with_reducible refine gate_dst (N := 9) rfl ?_); refine boxS_ 9 #[.string (⟨#[]⟩ : ByteArray), .int .i64 0, .int .i64 0, .string (⟨#[]⟩ : ByteArray)] 72 (fun gb607 hg w17 hbox hb => ?_); have n0_ := a0_ (Kd.R_below (Kd.R_elderB (kR_ HO_7.out) gb607 (Nat.le_of_eq hg.symm)) hb); have n1_ := a0_ (below_step bq0_ hb); have n2_ := a0_ (hbox); have n3_ := a0_ (gw_ hg : w.heap.size ≤ gb607); have n4_ := n3_; clear HO_7; clear HB; have HO_7 := n0_; have HB := n1_; have BK607 := n2_; have GW607 := n3_; have GE607 := n4_; clear n0_ n1_ n2_ n3_ n4_; clear hb hbox hg; obtain ⟨z18_0, z18_1, z18_2, z18_3, q18_0, q18_1, q18_2, q18_3⟩ := bk4_ BK607.out) | ((with_reducible refine gate_builtin (b := .append) (xs := #[.tmp 31, .tmp 33]) rfl ?_); at_builtin; refine Kd.R_append k72 (w0 := w) w.heap.size rfl (.tmp 31) (.tmp 33) 22 72 (.agg #[(.string ⟨#[]⟩), (.int .i64 0), (.int .i64 0), (.string ⟨#[]⟩)]) 48 rfl Tryz.underlying22 info72 rfl (by decide) (by omega) u7 x7_1 (⟨(rd_T72 l0 x13_1).f0, (rd_T72 l0 x13_1).f1, (rd_T72 l0 x13_1).f2, (rd_T72 l0 x13_1).f3⟩ : S72) [.string ((rd_T72 l0 x13_1).f0), .int .i64 ((rd_T72 l0 x13_1).f1), .int .i64 ((rd_T72 l0 x13_1).f2), .string ((rd_T72 l0 x13_1).f3)] (fun k_ => k_ ≠ gb607) (fun _ => False) rfl (by first | (go_simp; done) | (go_simp; rfl)) ?aP (fun _ hk => hk.elim) ?aF ?aO ?aB ?aS ?aL ?_; (case aP => exact k72_mkM _ _ _ (⟨(rd_T72 l0 x13_1).f0, (rd_T72 l0 x13_1).f1, (rd_T72 l0 x13_1).f2, (rd_T72 l0 x13_1).f3⟩ : S72)); (case aB => exact bq1_); (case aF => exact (fun k_ hk => Kd.freshB (g := gb607) (o := .cells #[.string ((rd_T72 l0 x13_1).f0), .int .i64 ((rd_T72 l0 x13_1).f1), .int .i64 ((rd_T72 l0 x13_1).f2), .string ((rd_T72 l0 x13_1).f3)] 72 (0, 0)) (put4_ BK607.out) k_ hk)); (case aO => exact (kR_ (Kd.R_mono (Kd.R_far (p := ⟨gb607, 3, none⟩) (Kd.R_far (p := ⟨gb607, 2, none⟩) (Kd.R_far (p := ⟨gb607, 1, none⟩) (Kd.R_far (p := ⟨gb607, 0, none⟩) (Kd.R_mono HO_7.out (fun k_ hk => (⟨hk, hk.2⟩ : _ ∧ k_ ≠ gb607))) (fun _ hk => hk.2) (.string ((rd_T72 l0 x13_1).f0))) (fun _ hk => hk.2) (.int .i64 ((rd_T72 l0 x13_1).f1))) (fun _ hk => hk.2) (.int .i64 ((rd_T72 l0 x13_1).f2))) (fun _ hk => hk.2) (.string ((rd_T72 l0 x13_1).f3))) (fun _ hk => hk.1.2)))); (case aS => exact (below_size bq1_)); (case aL => have := LMc16.out; omega); intro v612 w19 ho hb hg hat; rw [← Ny611.out] at ho; have n0_ := a0_ (blk_grown (g := gb607) (o := .cells #[.string ((rd_T72 l0 x13_1).f0), .int .i64 ((rd_T72 l0 x13_1).f1), .int .i64 ((rd_T72 l0 x13_1).f2), .string ((rd_T72 l0 x13_1).f3)] 72 (0, 0)) (put4_ BK607.out) hg (Kd.R_away HO_7.out (fun _ hk => hk.2))); have n1_ := a0_ (hb); have n2_ := a0_ (ho); clear BK607; clear HB; clear HO_7; have BK607 := n0_; have HB := n1_; have HO613 := n2_; clear n0_ n1_ n2_; clear ho hb hg hat))
                    go_roundg k1
                    case measure => have := HK1.out; omega
                    case rel => exact ⟨(y611), (wrap64 (x13_1 + 1)), (by first | rfl | (simp; done) | (simp [*]; done)), H', ⟨by have := HK1.out; omega⟩, ⟨by (with_reducible repeat (first | apply Kd.R_alloc | apply Kd.R_drewN | apply Kd.R_drew)); exact Kd.R_mono HO613.out (fun _ hk => trivial)⟩, ⟨by repeat (first | (with_reducible first | exact HB.out | apply below_alloc | apply pw_below_drewN | apply below_drew1 | refine below_set ?_ GE607.out) | exact HB.out)⟩⟩
                  · rw [if_neg c16] at H
                    exact absurd H (by simp)
                · rw [if_neg c15] at H
                  have c15b0 : (((rd_T72 l0 x13_1).f1) == a2) = false := beq_eq_false_iff_ne.mpr c15
                  have c15b1 : (((rd_T72 l0 x13_1).f1) != a2) = true := bne_iff_ne.mpr c15
                  have H' := a0_ H
                  clear H
                  have p606 : 0 ≤ (x13_1 : Int) := dec_
                  have q606 : x13_1 < (l0.length : Int) := dec_
                  obtain ⟨ad606, e606, hx606_0, hx606_1, hx606_2, hx606_3⟩ := at_T72 HR0.out x13_1 p606 q606
                  cases e606
                  obtain ⟨hx606_0, hx606_1, hx606_2, hx606_3⟩ := up4_ HB.out hx606_0 hx606_1 hx606_2 hx606_3
                  replace p606 := eq_true p606
                  replace q606 := eq_true q606
                  go_wp2_with (first | ((with_reducible refine gate_dst (N := 9) rfl ?_); refine boxS_ 9 #[.string (⟨#[]⟩ : ByteArray), .int .i64 0, .int .i64 0, .string (⟨#[]⟩ : ByteArray)] 72 (fun gb607 hg w20 hbox hb => ?_); have n0_ := a0_ (Kd.R_below (Kd.R_elderB (kR_ HO_7.out) gb607 (Nat.le_of_eq hg.symm)) hb); have n1_ := a0_ (below_step bq0_ hb); have n2_ := a0_ (hbox); have n3_ := a0_ (gw_ hg : w.heap.size ≤ gb607); have n4_ := n3_; clear HO_7; clear HB; have HO_7 := n0_; have HB := n1_; have BK607 := n2_; have GW607 := n3_; have GE607 := n4_; clear n0_ n1_ n2_ n3_ n4_; clear hb hbox hg; obtain ⟨z21_0, z21_1, z21_2, z21_3, q21_0, q21_1, q21_2, q21_3⟩ := bk4_ BK607.out))
                  go_roundg k1
                  case measure => have := HK1.out; omega
                  case rel => exact ⟨(x7_1), (wrap64 (x13_1 + 1)), (by first | rfl | (simp; done) | (simp [*]; done)), H', ⟨by have := HK1.out; omega⟩, ⟨by (with_reducible repeat (first | apply Kd.R_alloc | apply Kd.R_drewN | apply Kd.R_drew)); exact Kd.R_mono (Kd.R_far (p := ⟨gb607, 3, none⟩) (Kd.R_far (p := ⟨gb607, 2, none⟩) (Kd.R_far (p := ⟨gb607, 1, none⟩) (Kd.R_far (p := ⟨gb607, 0, none⟩) (Kd.R_mono HO_7.out (fun k_ hk => (⟨hk, hk.2⟩ : _ ∧ k_ ≠ gb607))) (fun _ hk => hk.2) (.string ((rd_T72 l0 x13_1).f0))) (fun _ hk => hk.2) (.int .i64 ((rd_T72 l0 x13_1).f1))) (fun _ hk => hk.2) (.int .i64 ((rd_T72 l0 x13_1).f2))) (fun _ hk => hk.2) (.string ((rd_T72 l0 x13_1).f3))) (fun _ hk => trivial)⟩, ⟨by repeat (first | (with_reducible first | exact HB.out | apply below_alloc | apply pw_below_drewN | apply below_drew1 | refine below_set ?_ GE607.out) | exact HB.out)⟩⟩
            · rw [if_neg c9] at H
              have c9b0 : (((rd_T72 l0 x13_1).f0).toList == a1.toList) = false := beq_eq_false_iff_ne.mpr c9
              have c9b1 : (((rd_T72 l0 x13_1).f0).toList != a1.toList) = true := bne_iff_ne.mpr c9
              have H' := a0_ H
              clear H
              have p606 : 0 ≤ (x13_1 : Int) := dec_
              have q606 : x13_1 < (l0.length : Int) := dec_
              obtain ⟨ad606, e606, hx606_0, hx606_1, hx606_2, hx606_3⟩ := at_T72 HR0.out x13_1 p606 q606
              cases e606
              obtain ⟨hx606_0, hx606_1, hx606_2, hx606_3⟩ := up4_ HB.out hx606_0 hx606_1 hx606_2 hx606_3
              replace p606 := eq_true p606
              replace q606 := eq_true q606
              go_wp2_with (first | ((with_reducible refine gate_dst (N := 9) rfl ?_); refine boxS_ 9 #[.string (⟨#[]⟩ : ByteArray), .int .i64 0, .int .i64 0, .string (⟨#[]⟩ : ByteArray)] 72 (fun gb607 hg w22 hbox hb => ?_); have n0_ := a0_ (Kd.R_below (Kd.R_elderB (kR_ HO_7.out) gb607 (Nat.le_of_eq hg.symm)) hb); have n1_ := a0_ (below_step bq0_ hb); have n2_ := a0_ (hbox); have n3_ := a0_ (gw_ hg : w.heap.size ≤ gb607); have n4_ := n3_; clear HO_7; clear HB; have HO_7 := n0_; have HB := n1_; have BK607 := n2_; have GW607 := n3_; have GE607 := n4_; clear n0_ n1_ n2_ n3_ n4_; clear hb hbox hg; obtain ⟨z23_0, z23_1, z23_2, z23_3, q23_0, q23_1, q23_2, q23_3⟩ := bk4_ BK607.out))
              go_roundg k1
              case measure => have := HK1.out; omega
              case rel => exact ⟨(x7_1), (wrap64 (x13_1 + 1)), (by first | rfl | (simp; done) | (simp [*]; done)), H', ⟨by have := HK1.out; omega⟩, ⟨by (with_reducible repeat (first | apply Kd.R_alloc | apply Kd.R_drewN | apply Kd.R_drew)); exact Kd.R_mono (Kd.R_far (p := ⟨gb607, 3, none⟩) (Kd.R_far (p := ⟨gb607, 2, none⟩) (Kd.R_far (p := ⟨gb607, 1, none⟩) (Kd.R_far (p := ⟨gb607, 0, none⟩) (Kd.R_mono HO_7.out (fun k_ hk => (⟨hk, hk.2⟩ : _ ∧ k_ ≠ gb607))) (fun _ hk => hk.2) (.string ((rd_T72 l0 x13_1).f0))) (fun _ hk => hk.2) (.int .i64 ((rd_T72 l0 x13_1).f1))) (fun _ hk => hk.2) (.int .i64 ((rd_T72 l0 x13_1).f2))) (fun _ hk => hk.2) (.string ((rd_T72 l0 x13_1).f3))) (fun _ hk => trivial)⟩, ⟨by repeat (first | (with_reducible first | exact HB.out | apply below_alloc | apply pw_below_drewN | apply below_drew1 | refine below_set ?_ GE607.out) | exact HB.out)⟩⟩
          · rw [if_neg c8] at H
            exact absurd H (by simp)
        · rw [if_neg c7] at H
          exact absurd H (by simp)
      · rw [if_neg c6] at H
        have c6b0 : decide (x13_1 < (l0.length : Int)) = false := decide_eq_false c6
        clear c6
        obtain rfl := Option.some.inj H
        go_wp2
        go_ret
        exact ⟨_, by first | rfl | (simp [errW_none, errW_some] <;> rfl) | (simp [*, errW_none, errW_some] <;> rfl), by (with_reducible repeat (first | apply Kd.R_alloc | apply Kd.R_drewN | apply Kd.R_drew)); exact HO_7.out, by repeat (first | (with_reducible first | exact HB.out | apply below_alloc | apply pw_below_drewN | apply below_drew1) | exact HB.out)⟩
end Go.Proofs.YtkpkfallgjdkmaaGreatDoor.P
namespace Go.Proofs.YtkpkfallgjdkmaaGreatDoor.P
open Go.RowKit Go.Proofs.YtkpkfallgjdkmaaGreatDoorW.PrintWords Go.Proofs.YtkpkfallgjdkmaaGreatDoorW.PrintLast Go.Proofs.YtkpkfallgjdkmaaGreatDoorW.PrintMore Go.Proofs.YtkpkfallgjdkmaaGreatDoor.Pure
set_option linter.unusedVariables false
set_option linter.unusedSimpArgs false
theorem eqA72 (d : Nat) (w : World) (x0 y0 : ByteArray) (x1 y1 : Int) (x2 y2 : Int) (x3 y3 : ByteArray) :
    (Op.equalIn (d + 2) 72 (.agg #[.string x0, .int .i64 x1, .int .i64 x2, .string x3]) (.agg #[.string y0, .int .i64 y1, .int .i64 y2, .string y3])).run Tryz.prog w = .ok (x0.toList == y0.toList && (x1 == y1 && (x2 == y2 && (x3.toList == y3.toList)))) w := by
  refine eqA_of Tryz.underlying72 (by kernel_rfl) ?_
  refine eqf_cons (by rfl) (by go_simp; rfl) (by go_simp; rfl) (by go_simp) ?_
  refine eqf_cons (by rfl) (by go_simp; rfl) (by go_simp; rfl) (by go_simp) ?_
  refine eqf_cons (by rfl) (by go_simp; rfl) (by go_simp; rfl) (by go_simp) ?_
  exact eqf_last (by rfl) (by go_simp; rfl) (by go_simp; rfl) (by go_simp)
attribute [local go_sem high] eqA72
/-- A record's cells. -/
def RecAt (W : World) (B : Nat) (r : S72) : Prop := W.cell? ⟨B, 0, none⟩ = some (.string r.f0) ∧ W.cell? ⟨B, 1, none⟩ = some (.int .i64 r.f1) ∧ W.cell? ⟨B, 2, none⟩ = some (.int .i64 r.f2) ∧ W.cell? ⟨B, 3, none⟩ = some (.string r.f3)
theorem RecAt.below {W W' : World} {B : Nat} {r : S72} (h : RecAt W B r) (hb : Below W.heap.size W W') : RecAt W' B r :=
  ⟨(hb.cell (World.block_lt_of_cell? _ _ h.1)).trans h.1, (hb.cell (World.block_lt_of_cell? _ _ h.2.1)).trans h.2.1, (hb.cell (World.block_lt_of_cell? _ _ h.2.2.1)).trans h.2.2.1, (hb.cell (World.block_lt_of_cell? _ _ h.2.2.2)).trans h.2.2.2⟩
theorem RecAt.of_box {W : World} {B : Nat} {r : S72} (h : W.heap[B]? = some (.cells #[.string r.f0, .int .i64 r.f1, .int .i64 r.f2, .string r.f3] 72 (0, 0))) : RecAt W B r :=
  ⟨(blk_cell h 0).trans rfl, (blk_cell h 1).trans rfl, (blk_cell h 2).trans rfl, (blk_cell h 3).trans rfl⟩
theorem bytes_eq (a b : ByteArray) : (a.toList == b.toList) = decide (a = b) := by
  rw [Bool.eq_iff_iff, beq_iff_eq, decide_eq_true_eq, Lib.toList_data, Lib.toList_data]
  exact (nm_eq _ _).symm
/-- The first closure: another ttl, or the same data in another record. -/
def clashB (r x : S72) : Bool := decide (x.f2 ≠ r.f2) || (decide (x.f3 = r.f3) && decide (x ≠ r))
set_option maxHeartbeats 4000000 in
set_option maxRecDepth 100000 in
theorem breaks1 (r x : S72) (B : Nat) (W : World) (hc : RecAt W B r) :
    Calls Tryz.prog 91 #[encR x, .pointer (some ⟨B, 0, none⟩)] W fun e W' => e = .returned (.bool (clashB r x)) ∧ Below W.heap.size W W' := by
  unfold encR
  have hu := Tryz.underlying72
  have key : clashB r x = (!(x.f2 == r.f2) || ((x.f3.toList == r.f3.toList) && !(x.f0.toList == r.f0.toList && (x.f1 == r.f1 && (x.f2 == r.f2 && (x.f3.toList == r.f3.toList)))))) := by
    unfold clashB
    rw [bytes_eq, bytes_eq, Bool.eq_iff_iff]
    cases x; cases r
    simp
  have HK := Aside0.mk key
  clear key
  obtain ⟨r0, r1, r2, r3⟩ := r
  obtain ⟨x0, x1, x2, x3⟩ := x
  simp only at HK
  have l0 := fun o => (below_alloc (Below.refl W.heap.size W) o).cell (World.block_lt_of_cell? _ _ hc.1) |>.trans hc.1
  have l1 := fun o => (below_alloc (Below.refl W.heap.size W) o).cell (World.block_lt_of_cell? _ _ hc.2.1) |>.trans hc.2.1
  have l2 := fun o => (below_alloc (Below.refl W.heap.size W) o).cell (World.block_lt_of_cell? _ _ hc.2.2.1) |>.trans hc.2.2.1
  have l3 := fun o => (below_alloc (Below.refl W.heap.size W) o).cell (World.block_lt_of_cell? _ _ hc.2.2.2) |>.trans hc.2.2.2
  simp only at l0 l1 l2 l3
  have HB := Aside0.mk (below_alloc (Below.refl W.heap.size W))
  by_cases c1 : x2 = r2
  · have b1 : (x2 == r2) = true := beq_iff_eq.mpr c1
    have b2 : (x2 != r2) = false := bne_eq_false_iff_eq.mpr c1
    by_cases c3 : x3.toList = r3.toList
    · have b3 : (x3.toList == r3.toList) = true := beq_iff_eq.mpr c3
      go_enter Tryz.func91, Tryz.ntmps91
      go_wp2
      go_ret
      exact ⟨by rw [HK.out, b1, b3]; simp, HB.out _⟩
    · have b3 : (x3.toList == r3.toList) = false := beq_eq_false_iff_ne.mpr c3
      go_enter Tryz.func91, Tryz.ntmps91
      go_wp2
      go_ret
      exact ⟨by rw [HK.out, b1, b3]; simp, HB.out _⟩
  · have b1 : (x2 == r2) = false := beq_eq_false_iff_ne.mpr c1
    have b2 : (x2 != r2) = true := bne_iff_ne.mpr c1
    go_enter Tryz.func91, Tryz.ntmps91
    go_wp2
    go_ret
    exact ⟨by rw [HK.out, b1]; rfl, HB.out _⟩
/-- The second closure: a cut at or above the record's name, and the record is neither an address nor the cut's own. -/
def cutB (apex : ByteArray) (r c : S72) : Bool := (decide (c.f1 = 2) && (decide (c.f0 ≠ apex) && belowL (nmL r) (nmL c))) && (decide (r.f1 ≠ 1) && !(decide (r.f1 = 2) && decide (r.f0 = c.f0)))
set_option maxHeartbeats 4000000 in
set_option maxRecDepth 100000 in
theorem breaks2 (apex : ByteArray) (r c : S72) (BA B : Nat) (W : World) (hs : r.f0.size ≤ 1048576 ∧ c.f0.size ≤ 1048576) (ha : W.cell? ⟨BA, 0, none⟩ = some (.string apex)) (hc : RecAt W B r) :
    Calls Tryz.prog 92 #[encR c, .pointer (some ⟨BA, 0, none⟩), .pointer (some ⟨B, 0, none⟩)] W fun e W' => e = .returned (.bool (cutB apex r c)) ∧ Below W.heap.size W W' := by
  unfold encR
  have hu := Tryz.underlying72
  have hbel := implBelow_eq r.f0 c.f0 (by omega) (by omega)
  have key : cutB apex r c = ((c.f1 == 2 && (!(c.f0.toList == apex.toList) && belowL r.f0.data.toList c.f0.data.toList)) && (!(r.f1 == 1) && !(r.f1 == 2 && r.f0.toList == c.f0.toList))) := by
    have e : ∀ a b : Int, (a == b) = decide (a = b) := fun a b => by rw [Bool.eq_iff_iff, beq_iff_eq, decide_eq_true_eq]
    unfold cutB nmL
    rw [bytes_eq, bytes_eq, e, e, e]
    simp
  have HK := Aside0.mk key
  have HBel := Aside0.mk hbel
  clear key hbel
  obtain ⟨r0, r1, r2, r3⟩ := r
  obtain ⟨c0, c1, c2, c3⟩ := c
  simp only at HK HBel
  have l0 := fun o => (below_alloc (Below.refl W.heap.size W) o).cell (World.block_lt_of_cell? _ _ hc.1) |>.trans hc.1
  have l1 := fun o => (below_alloc (Below.refl W.heap.size W) o).cell (World.block_lt_of_cell? _ _ hc.2.1) |>.trans hc.2.1
  have la := fun o => (below_alloc (Below.refl W.heap.size W) o).cell (World.block_lt_of_cell? _ _ ha) |>.trans ha
  simp only at l0 l1
  have HB := Aside0.mk (below_alloc (Below.refl W.heap.size W))
  generalize hq : belowL r0.data.toList c0.data.toList = q at HK HBel
  by_cases d1 : c1 = 2
  · have b1 : (c1 == 2) = true := beq_iff_eq.mpr d1
    clear d1
    by_cases d2 : c0.toList = apex.toList
    · have b2 : (c0.toList == apex.toList) = true := beq_iff_eq.mpr d2
      have b2' : (c0.toList != apex.toList) = false := bne_eq_false_iff_eq.mpr d2
      go_enter Tryz.func92, Tryz.ntmps92
      go_wp2
      go_ret
      exact ⟨by rw [HK.out, b1, b2]; rfl, HB.out _⟩
    · have b2 : (c0.toList == apex.toList) = false := beq_eq_false_iff_ne.mpr d2
      have b2' : (c0.toList != apex.toList) = true := bne_iff_ne.mpr d2
      cases q with
      | false =>
        go_enter Tryz.func92, Tryz.ntmps92
        go_wp2_with (go_at_call 90; refine (impl_isBelow.calls _ _ _ _ HBel.out).mono ?_; rintro e w' ⟨rfl, ⟨nd, rfl⟩⟩)
        go_ret
        exact ⟨by rw [HK.out, b1, b2]; rfl, pw_below_drewN (HB.out _) _⟩
      | true =>
        by_cases d3 : r1 = 1
        · have b3 : (r1 == 1) = true := beq_iff_eq.mpr d3
          go_enter Tryz.func92, Tryz.ntmps92
          go_wp2_with (go_at_call 90; refine (impl_isBelow.calls _ _ _ _ HBel.out).mono ?_; rintro e w' ⟨rfl, ⟨nd, rfl⟩⟩)
          go_ret
          exact ⟨by rw [HK.out, b1, b2, b3]; rfl, pw_below_drewN (HB.out _) _⟩
        · have b3 : (r1 == 1) = false := beq_eq_false_iff_ne.mpr d3
          have b3' : (r1 != 1) = true := bne_iff_ne.mpr d3
          by_cases d4 : r1 = 2
          · have b4 : (r1 == 2) = true := beq_iff_eq.mpr d4
            by_cases d5 : r0.toList = c0.toList
            · have b5 : (r0.toList == c0.toList) = true := beq_iff_eq.mpr d5
              go_enter Tryz.func92, Tryz.ntmps92
              go_wp2_with (go_at_call 90; refine (impl_isBelow.calls _ _ _ _ HBel.out).mono ?_; rintro e w' ⟨rfl, ⟨nd, rfl⟩⟩)
              go_ret
              exact ⟨by rw [HK.out, b1, b2, b3, b4, b5]; rfl, pw_below_drewN (HB.out _) _⟩
            · have b5 : (r0.toList == c0.toList) = false := beq_eq_false_iff_ne.mpr d5
              go_enter Tryz.func92, Tryz.ntmps92
              go_wp2_with (go_at_call 90; refine (impl_isBelow.calls _ _ _ _ HBel.out).mono ?_; rintro e w' ⟨rfl, ⟨nd, rfl⟩⟩)
              go_ret
              exact ⟨by rw [HK.out, b1, b2, b3, b4, b5]; rfl, pw_below_drewN (HB.out _) _⟩
          · have b4 : (r1 == 2) = false := beq_eq_false_iff_ne.mpr d4
            go_enter Tryz.func92, Tryz.ntmps92
            go_wp2_with (go_at_call 90; refine (impl_isBelow.calls _ _ _ _ HBel.out).mono ?_; rintro e w' ⟨rfl, ⟨nd, rfl⟩⟩)
            go_ret
            exact ⟨by rw [HK.out, b1, b2, b3, b4]; rfl, pw_below_drewN (HB.out _) _⟩
  · have b1 : (c1 == 2) = false := beq_eq_false_iff_ne.mpr d1
    go_enter Tryz.func92, Tryz.ntmps92
    go_wp2
    go_ret
    exact ⟨by rw [HK.out, b1]; rfl, HB.out _⟩
end Go.Proofs.YtkpkfallgjdkmaaGreatDoor.P
namespace Go.Proofs.YtkpkfallgjdkmaaGreatDoor.P
open Go.RowKit Go.Proofs.YtkpkfallgjdkmaaGreatDoorW.PrintWords Go.Proofs.YtkpkfallgjdkmaaGreatDoorW.PrintLast Go.Proofs.YtkpkfallgjdkmaaGreatDoorW.PrintMore
attribute [local go_sem] max2_int min2_int max_two min_two max_three min_three max_four min_four
set_option linter.unusedVariables false
set_option linter.unusedSimpArgs false
def impl_isApex.f (a0 : ByteArray) : Option (Bool) := (impl_GoodName.f a0).bind fun t498 => (if t498 = true then ((strings_Contains.f a0 (⟨#[42]⟩ : ByteArray)).bind fun t499 => (some (!t499))) else (some false))
set_option maxHeartbeats 8000000 in
set_option maxRecDepth 100000 in
theorem impl_isApex.calls (a0 : ByteArray) (r : Bool) (w : World) (h : impl_isApex.f a0 = some r) :
    Calls Tryz.prog 87 #[.string a0] w fun e w' => e = .returned (.bool r) ∧ Below w.heap.size w w' := by
  have HB := a0_ (Below.refl w.heap.size w)
  have H : ((impl_GoodName.f a0).bind fun t498 => (if t498 = true then ((strings_Contains.f a0 (⟨#[42]⟩ : ByteArray)).bind fun t499 => (some (!t499))) else (some false))) = some r := h
  clear h
  replace H := Option.bind_eq_some_iff.mp H
  obtain ⟨t498, A20, H⟩ := H
  replace H : (if t498 = true then ((strings_Contains.f a0 (⟨#[42]⟩ : ByteArray)).bind fun t499 => (some (!t499))) else (some false)) = some r := H
  have A2 := a0_ A20
  clear A20
  by_cases c3 : t498 = true
  · subst c3
    have H1 : ((strings_Contains.f a0 (⟨#[42]⟩ : ByteArray)).bind fun t499 => (some (!t499))) = some r := by rw [if_pos rfl] at H; exact H
    clear H
    have H := H1
    clear H1
    replace H := Option.bind_eq_some_iff.mp H
    obtain ⟨t499, A40, H⟩ := H
    replace H : (some (!t499)) = some r := H
    have A4 := a0_ A40
    clear A40
    obtain rfl := Option.some.inj H
    go_enter Tryz.func87, Tryz.ntmps87
    go_wp2_with (first | ((with_reducible refine gate_callee (f := 72) rfl ?_); refine goesS_ (some 4) Tryz.func72 #[.string a0] ?_; (with_reducible refine (impl_GoodName.calls a0 true _ A2.out).mono ?_); rintro e w5 ⟨rfl, hb⟩; refine ⟨_, rfl, ?_⟩; replace HB := a0_ (below_step bq0_ hb); (try clear hb); (try clear hb2); (try clear hk); (try clear hi)) | (go_at_call 113; (with_reducible refine (strings_Contains.calls a0 (⟨#[42]⟩ : ByteArray) t499 _ A4.out).mono ?_); rintro e w' ⟨rfl, ⟨nd, rfl⟩⟩))
    go_ret
    exact ⟨by first | rfl | (simp [errW_none, errW_some] <;> rfl) | (simp [*, errW_none, errW_some] <;> rfl), by repeat (first | (with_reducible first | exact HB.out | apply below_alloc | apply pw_below_drewN | apply below_drew1) | exact HB.out)⟩
  · replace c3 := Bool.eq_false_iff.mpr c3
    subst c3
    have H1 : (some false) = some r := by rw [if_neg (show ¬ (false = true) by decide)] at H; exact H
    clear H
    have H := H1
    clear H1
    obtain rfl := Option.some.inj H
    go_enter Tryz.func87, Tryz.ntmps87
    go_wp2_with (first | ((with_reducible refine gate_callee (f := 72) rfl ?_); refine goesS_ (some 4) Tryz.func72 #[.string a0] ?_; (with_reducible refine (impl_GoodName.calls a0 false _ A2.out).mono ?_); rintro e w6 ⟨rfl, hb⟩; refine ⟨_, rfl, ?_⟩; replace HB := a0_ (below_step bq0_ hb); (try clear hb); (try clear hb2); (try clear hk); (try clear hi)))
    go_ret
    exact ⟨by first | rfl | (simp [errW_none, errW_some] <;> rfl) | (simp [*, errW_none, errW_some] <;> rfl), by repeat (first | (with_reducible first | exact HB.out | apply below_alloc | apply pw_below_drewN | apply below_drew1) | exact HB.out)⟩
end Go.Proofs.YtkpkfallgjdkmaaGreatDoor.P
