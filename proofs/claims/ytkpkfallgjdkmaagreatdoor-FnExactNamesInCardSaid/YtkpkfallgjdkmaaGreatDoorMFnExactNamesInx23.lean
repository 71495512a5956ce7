/- FnExactNamesIn: part 24 of 30 of my texts for this claim, joined; the theorem stands in the last. Conditions: none beyond the statement's. -/
import Derived.Test.YtkpkfallgjdkmaaGreatDoorMFnExactNamesInx15
import Derived.Test.YtkpkfallgjdkmaaGreatDoorMFnExactNamesInx21
import Derived.Test.YtkpkfallgjdkmaaGreatDoorMFnExactNamesInx3
import Derived.Test.YtkpkfallgjdkmaaGreatDoorMFnExactNamesInx5
import Derived.Test.YtkpkfallgjdkmaaGreatDoorMFnExactNamesInx17
import Derived.Test.YtkpkfallgjdkmaaGreatDoorMFnExactNamesInx22
import Derived.Test.YtkpkfallgjdkmaaGreatDoorMFnExactNamesInx18
namespace Go.Proofs.YtkpkfallgjdkmaaGreatDoor.P
open Go.RowKit Go.Proofs.YtkpkfallgjdkmaaGreatDoorW.PrintWords Go.Proofs.YtkpkfallgjdkmaaGreatDoorW.PrintLast Go.Proofs.YtkpkfallgjdkmaaGreatDoorW.PrintMore
set_option linter.unusedVariables false
set_option linter.unusedSimpArgs false
def encR (x : S72) : Value := .agg #[.string x.f0, .int .i64 x.f1, .int .i64 x.f2, .string x.f3]
def PredR (g : Nat) (cb : Array Value) (p : S72 → Bool) (xs : List (S72)) (w : World) : Prop :=
 ∀ (j : Nat) (x : S72), xs[j]? = some x → (∀ (i : Nat) (y : S72), i < j → xs[i]? = some y → p y = false) → ∀ W, Below w.heap.size w W → Calls Tryz.prog g (#[encR x] ++ cb) W fun e W' => e = .returned (.bool (p x)) ∧ Below W.heap.size W W'
set_option maxHeartbeats 2000000 in
theorem index_rec (A : Option Addr) (c : Nat) (xs : List (S72)) (g : Nat) (cb : Array Value) (p : S72 → Bool) (w : World) (hr : Kd.C k72 w A xs.length xs)
 (eg : ∀ args w, (callFunc g args).run Tryz.prog w = .ok (.enter g args) w) (hp : PredR g cb p xs w) :
 Calls Tryz.prog 89 #[.slice A xs.length c, .func (.func g) #[] cb] w fun e w' => e = .returned (.int .i64 (idxP p xs 0)) ∧ Below w.heap.size w w' := by
 have hbig : xs.length ≤ 9223372036854775807 := hr.2.1
 go_enter Tryz.func89, Tryz.ntmps89
 go_wp2
 go_loopg [5, 8] xs.length (fun gg _ s8 wr => ∃ kk : Nat, kk ≤ xs.length ∧ xs.length - kk ≤ gg ∧ s8 = .int .i64 kk ∧ Aside0 (Below w.heap.size w wr) ∧ Aside0 (∀ j y, j < kk → xs[j]? = some y → p y = false))
 case atStart => exact ⟨0, Nat.zero_le _, by omega, rfl, ⟨Below.refl _ w⟩, ⟨fun j y hj => absurd hj (Nat.not_lt_zero _)⟩⟩
 case round =>
  obtain ⟨kk, hkk, hg, rfl, BW, AA⟩ := hrel
  by_cases hlt : kk < xs.length
  · have hltz : (kk : Int) < (xs.length : Int) := by omega
    obtain ⟨ad, e0, hx0, hx1, hx2, hx3⟩ := at_T72 hr (kk : Int) (by omega) hltz
    cases e0
    have l0 := (BW.out.cell (World.block_lt_of_cell? _ _ hx0)).trans hx0
    have l1 := (BW.out.cell (World.block_lt_of_cell? _ _ hx1)).trans hx1
    have l2 := (BW.out.cell (World.block_lt_of_cell? _ _ hx2)).trans hx2
    have l3 := (BW.out.cell (World.block_lt_of_cell? _ _ hx3)).trans hx3
    clear hx0 hx1 hx2 hx3
    simp only [Int.toNat_natCast] at l0 l1 l2 l3
    have hmem : xs[kk]? = some (rd_T72 xs kk) := by
     rw [List.getElem?_eq_getElem hlt]; simp [rd_T72, List.getElem?_eq_getElem hlt]
    have hcall := hp kk (rd_T72 xs kk) hmem AA.out wr BW.out
    clear hp
    generalize hy : rd_T72 xs kk = y at l0 l1 l2 l3 hcall hmem
    have B := Aside0.mk hmem
    clear hmem hy
    have hkn : ((kk : Int)).toNat = kk := by omega
    unfold encR at hcall
    cases hq : p y with
    | true =>
     rw [hq] at hcall
     go_wp2_with (go_at_fn g; refine hcall.mono ?_; rintro e w' ⟨rfl, hb'⟩)
     go_ret
     refine ⟨?_, below_then BW.out BW.out.size hb'⟩
     rw [idxP_hit p xs 0 kk y B.out hq AA.out]
     simp
    | false =>
     rw [hq] at hcall
     go_wp2_with (go_at_fn g; refine hcall.mono ?_; rintro e w' ⟨rfl, hb'⟩)
     go_roundg (xs.length - (kk + 1))
     case measure => omega
     case rel =>
      refine ⟨kk + 1, by omega, by omega, by go_num, ⟨below_then BW.out BW.out.size hb'⟩, ⟨fun j z hj hz => ?_⟩⟩
      by_cases e : j = kk
      · subst e
        rw [B.out] at hz
        cases hz
        exact hq
      · exact AA.out j z (by omega) hz
  · have hltz : ¬ (kk : Int) < (xs.length : Int) := by omega
    have hm : idxP p xs 0 = -1 := idxP_miss p xs 0 (fun y hy => by obtain ⟨j, hj, e⟩ := List.mem_iff_getElem.1 hy; exact AA.out j y (by omega) (by rw [List.getElem?_eq_getElem hj, e]))
    have HM := Aside0.mk hm
    clear hm
    go_wp2
    go_ret
    exact ⟨by rw [HM.out]; rfl, BW.out⟩
theorem contains_rec (A : Option Addr) (c : Nat) (xs : List (S72)) (g : Nat) (cb : Array Value) (p : S72 → Bool) (w : World) (hr : Kd.C k72 w A xs.length xs)
 (eg : ∀ args w, (callFunc g args).run Tryz.prog w = .ok (.enter g args) w) (hp : PredR g cb p xs w) :
 Calls Tryz.prog 59 #[.slice A xs.length c, .func (.func g) #[] cb] w fun e w' => e = .returned (.bool (xs.any p)) ∧ Below w.heap.size w w' := by
 rw [← idxP_any p xs 0 (by omega)]
 go_enter Tryz.func59, Tryz.ntmps59
 go_wp2_with (go_at_call 89; refine (index_rec A c xs g cb p _ hr eg hp).mono ?_; rintro e w' ⟨rfl, hb'⟩)
 go_ret
 exact ⟨rfl, hb'⟩
def impl_areRecords.f (k : Nat) : List (S72) → Option Bool
 | [] => some true
 | x :: xs => (impl_GoodRecord.f k x.f0 x.f1 x.f2 x.f3).bind fun g => (if g = true then impl_areRecords.f k xs else some false)
def badP (k : Nat) (x : S72) : Bool := !((impl_GoodRecord.f k x.f0 x.f1 x.f2 x.f3).getD false)
end Go.Proofs.YtkpkfallgjdkmaaGreatDoor.P
namespace Go.Proofs.YtkpkfallgjdkmaaGreatDoor.P
open Go.RowKit Go.Proofs.YtkpkfallgjdkmaaGreatDoorW.PrintWords Go.Proofs.YtkpkfallgjdkmaaGreatDoorW.PrintLast Go.Proofs.YtkpkfallgjdkmaaGreatDoorW.PrintMore
attribute [local go_sem] max2_int min2_int max_two min_two max_three min_three max_four min_four
set_option linter.unusedVariables false
set_option linter.unusedSimpArgs false
def impl_areRising.l0 : Nat → List (S72) → List (S72) → Int → Int → Option (Bool)
 | 0, _, _, _, _ => none
 | k + 1, x0, x5, x6, x7 => if x7 < x6 then (if 0 ≤ x7 then (if x7 < (x5.length : Int) then ((impl_GoodRecord.f k ((rd_T72 x5 x7).f0) ((rd_T72 x5 x7).f1) ((rd_T72 x5 x7).f2) ((rd_T72 x5 x7).f3)).bind fun t598 => (if t598 = true then (if x7 > 0 then (if 0 ≤ (wrap64 (x7 - 1)) then (if (wrap64 (x7 - 1)) < (x0.length : Int) then ((impl_compareRecords.f k ((rd_T72 x0 (wrap64 (x7 - 1))).f0) ((rd_T72 x0 (wrap64 (x7 - 1))).f1) ((rd_T72 x0 (wrap64 (x7 - 1))).f2) ((rd_T72 x0 (wrap64 (x7 - 1))).f3) ((rd_T72 x5 x7).f0) ((rd_T72 x5 x7).f1) ((rd_T72 x5 x7).f2) ((rd_T72 x5 x7).f3)).bind fun t600 => (if t600 ≥ 0 then (some false) else (impl_areRising.l0 k x0 x5 x6 (wrap64 (x7 + 1))))) else (none)) else (none)) else (impl_areRising.l0 k x0 x5 x6 (wrap64 (x7 + 1)))) else (some false))) else (none)) else (none)) else (some true)
def impl_areRising.f (k : Nat) (l0 : List (S72)) : Option (Bool) := impl_areRising.l0 k l0 l0 (l0.length : Int) 0
def impl_areRising.T4 : Bool × List (List Nat × List Nat) := (true, [([], []), ([0], [0]), ([1], [1]), ([2, 1], [2]), ([3], [3]), ([4, 3], [3, 4]), ([5, 3, 3], [3, 5]), ([6], [6]), ([6], [6]), ([8, 6], [6, 8]), ([7, 9, 6], [6, 7, 9]), ([10, 6], [6, 10]), ([6], [6]), ([11, 12, 6, 6], [6, 11, 12]), ([13, 6], [6, 13]), ([6, 14, 3], [3, 6, 14]), ([3, 15], [3, 15])])
def impl_areRising.B4 : List Nat := [0, 1, 3, 7, 15, 31, 63, 127, 127, 383, 1023, 2047, 127, 8191, 16383, 32767, 65535]
theorem impl_areRising.tab4 : rtab .any (opsOf Tryz.f88 4) = impl_areRising.T4 := by kernel_rfl
theorem impl_areRising.bits4 : waitsOk impl_areRising.T4.2 impl_areRising.B4 = true := by kernel_rfl
set_option maxHeartbeats 8000000 in
set_option maxRecDepth 100000 in
theorem impl_areRising.calls (k : Nat) (A0 : Option Addr) (c0 : Nat) (l0 : List (S72)) (r : Bool) (w : World) (hr0 : Kd.C k72 w A0 l0.length l0) (hc0 : l0.length ≤ c0) (h : impl_areRising.f k l0 = some r) (hv_ : Vars w := by exact vv_) :
 Calls Tryz.prog 88 #[.slice A0 l0.length c0] w fun e w' => e = .returned (.bool r) ∧ Below w.heap.size w w' := by
 have HV_ := a0_ hv_
 clear hv_
 have hu72 := Tryz.underlying72
 have HR0 := a0_ hr0
 have HC0 := a0_ hc0
 clear hr0 hc0
 have HB := a0_ (Below.refl w.heap.size w)
 have H : (impl_areRising.l0 k l0 l0 (l0.length : Int) 0) = some r := h
 clear h
 have H' := a0_ H
 clear H
 go_enter Tryz.func88, Tryz.ntmps88
 go_wp2
 go_loopg [7] k (fun kq v7 w' => ∃ (x7_1 : Int), v7 = .int .i64 x7_1 ∧ Aside0 (impl_areRising.l0 kq l0 l0 (l0.length : Int) x7_1 = some r) ∧ Aside0 (kq ≤ k) ∧ Aside0 (Below w.heap.size w w'))
 case atStart => exact ⟨(0), rs_, H', ⟨Nat.le_refl _⟩, ⟨bq0_⟩⟩
 case round =>
  clear H'
  obtain ⟨x7_1, rfl, HA, HK1, HB⟩ := hrel
  cases gk with
  | zero => exact absurd HA.out (by simp [impl_areRising.l0])
  | succ k1 =>
   have H := HA.out
   clear HA
   simp only [impl_areRising.l0] at H
   by_cases c2 : x7_1 < (l0.length : Int)
   case neg =>
    rw [if_neg c2] at H
    have c2b0 := decide_eq_false c2
    clear c2
    obtain rfl := Option.some.inj H
    go_wp2
    go_ret
    exact ⟨rr_, bq0_⟩
   rw [if_pos c2] at H
   have c2b0 := decide_eq_true c2
   clear c2
   by_cases c3 : 0 ≤ x7_1
   case neg =>
    rw [if_neg c3] at H
    exact absurd H (by simp)
   rw [if_pos c3] at H
   have c3b0 := decide_eq_true c3
   clear c3
   by_cases c4 : x7_1 < (l0.length : Int)
   case neg =>
    rw [if_neg c4] at H
    exact absurd H (by simp)
   rw [if_pos c4] at H
   have c4b0 := decide_eq_true c4
   clear c4
   obtain ⟨t598, A50, H⟩ := Option.bind_eq_some_iff.mp H
   have A5 := a0_ A50
   clear A50
   by_cases c6 : t598 = true
   case neg =>
    replace c6 := Bool.eq_false_iff.mpr c6
    subst c6
    rw [if_neg (show ¬ (false = true) by decide)] at H
    obtain rfl := Option.some.inj H
    have p596 : 0 ≤ (x7_1 : Int) := dec_
    have q596 : x7_1 < (l0.length : Int) := dec_
    obtain ⟨ad596, e596, hx596_0, hx596_1, hx596_2, hx596_3⟩ := at_T72 HR0.out x7_1 p596 q596
    cases e596
    obtain ⟨hx596_0, hx596_1, hx596_2, hx596_3⟩ := up4_ HB.out hx596_0 hx596_1 hx596_2 hx596_3
    replace p596 := eq_true p596
    replace q596 := eq_true q596
    try go_wp2_with (first | ((with_reducible refine gate_dst (N := 4) rfl ?_); refine boxS_ 4 #[.string (⟨#[]⟩ : ByteArray), .int .i64 0, .int .i64 0, .string (⟨#[]⟩ : ByteArray)] 72 (fun gb597 hg w30 hbox hb => ?_); have n0_ := a0_ (below_step bq0_ hb); have n1_ := a0_ (hbox); have n2_ := a0_ (gw_ hg : w.heap.size ≤ gb597); have n3_ := n2_; clear HB; have HB := n0_; have BK597 := n1_; have GW597 := n2_; have GE597 := n3_; clear n0_ n1_ n2_ n3_; clear hb hbox hg; obtain ⟨z31_0, z31_1, z31_2, z31_3, q31_0, q31_1, q31_2, q31_3⟩ := bk4_ BK597.out))
    have n0_ : Aside0 (((((w30.setCell ⟨gb597, 0, none⟩ (.string ((rd_T72 l0 x7_1).f0))).setCell ⟨gb597, 1, none⟩ (.int .i64 ((rd_T72 l0 x7_1).f1))).setCell ⟨gb597, 2, none⟩ (.int .i64 ((rd_T72 l0 x7_1).f2))).setCell ⟨gb597, 3, none⟩ (.string ((rd_T72 l0 x7_1).f3))).heap[gb597]? = some (.cells #[.string ((rd_T72 l0 x7_1).f0), .int .i64 ((rd_T72 l0 x7_1).f1), .int .i64 ((rd_T72 l0 x7_1).f2), .string ((rd_T72 l0 x7_1).f3)] 72 (0, 0))) := ⟨put4_ BK597.out⟩
    have n1_ : Aside0 (Below w.heap.size w ((((w30.setCell ⟨gb597, 0, none⟩ (.string ((rd_T72 l0 x7_1).f0))).setCell ⟨gb597, 1, none⟩ (.int .i64 ((rd_T72 l0 x7_1).f1))).setCell ⟨gb597, 2, none⟩ (.int .i64 ((rd_T72 l0 x7_1).f2))).setCell ⟨gb597, 3, none⟩ (.string ((rd_T72 l0 x7_1).f3)))) := ⟨bq1_⟩
    (try clear BK597)
    (try clear HB)
    generalize ((((w30.setCell ⟨gb597, 0, none⟩ (.string ((rd_T72 l0 x7_1).f0))).setCell ⟨gb597, 1, none⟩ (.int .i64 ((rd_T72 l0 x7_1).f1))).setCell ⟨gb597, 2, none⟩ (.int .i64 ((rd_T72 l0 x7_1).f2))).setCell ⟨gb597, 3, none⟩ (.string ((rd_T72 l0 x7_1).f3))) = w32 at n0_ n1_ ⊢
    have BK597 := n0_
    have HB := n1_
    clear n0_ n1_
    replace BK597 := a0_ (blk_drew BK597.out)
    replace HB := a0_ (below_drew1 HB.out)
    refine start_ (n := 17) (S := fun w' => w'.cell? ⟨gb597, 0, none⟩ = some (.string ((rd_T72 l0 x7_1).f0)) ∧ w'.cell? ⟨gb597, 1, none⟩ = some (.int .i64 ((rd_T72 l0 x7_1).f1)) ∧ w'.cell? ⟨gb597, 2, none⟩ = some (.int .i64 ((rd_T72 l0 x7_1).f2)) ∧ w'.cell? ⟨gb597, 3, none⟩ = some (.string ((rd_T72 l0 x7_1).f3))) (ds := []) #[false, false, false, false, false, false, false, false, false, false, false, false, false, false, false, false, false] (by kernel_rfl) rfl rfl ⟨(blk_cell BK597.out 0).trans rfl, (blk_cell BK597.out 1).trans rfl, (blk_cell BK597.out 2).trans rfl, (blk_cell BK597.out 3).trans rfl⟩ (fun hHeld => ?_); refine with_tabW impl_areRising.tab4 impl_areRising.bits4 (fun HT_ HW_ => ?_)
    generalize w32.drew = w33 at BK597 HB hHeld ⊢
    refine takeS_ 0 (some 12) ?_
    refine oneS_ 1 (some 13) (fun K hK => ?_)
    refine goes_ Tryz.func106 (by kernel_rfl) rfl #[.agg #[.string ((rd_T72 l0 x7_1).f0), .int .i64 ((rd_T72 l0 x7_1).f1), .int .i64 ((rd_T72 l0 x7_1).f2), .string ((rd_T72 l0 x7_1).f3)]] (by rfl) rfl rfl argsS_ ?_
    with_reducible refine (impl_GoodRecord.calls k1 ((rd_T72 l0 x7_1).f0) ((rd_T72 l0 x7_1).f1) ((rd_T72 l0 x7_1).f2) ((rd_T72 l0 x7_1).f3) false _ A5.out).mono ?_
    rintro e w34 ⟨rfl, hb⟩
    refine ⟨_, rfl, ?_⟩
    replace BK597 := a0_ (bkB_ BK597 hb)
    replace HB := a0_ (below_step bq1_ hb)
    (try clear hb)
    (try clear hb2)
    (try clear hk)
    (try clear hi)
    refine hK.out _ _ ⟨(blk_cell BK597.out 0).trans rfl, (blk_cell BK597.out 1).trans rfl, (blk_cell BK597.out 2).trans rfl, (blk_cell BK597.out 3).trans rfl⟩ (fun hHeld => ?_)
    clear hK K
    refine normS_ ?_
    refine pureS_ 2 (some 14) ?_
    refine pureS_ 3 (some 15) ?_
    refine skipS_ 4 (some 16) ?_
    refine skipS_ 5 (some 17) ?_
    refine skipS_ 6 (some 18) ?_
    refine skipS_ 7 (some 19) ?_
    refine skipS_ 8 (some 20) ?_
    refine skipS_ 9 (some 21) ?_
    refine skipS_ 10 (some 22) ?_
    refine skipS_ 11 (some 23) ?_
    refine skipS_ 12 (some 24) ?_
    refine skipS_ 13 (some 25) ?_
    refine skipS_ 14 (some 26) ?_
    refine skipS_ 15 (some 27) ?_
    refine pureS_ 16 (some 28) ?_
    refine done_ (done_of HT_.out (by kernel_rfl)) ?_
    try go_wp2
    go_ret
    exact ⟨rr_, bq1_⟩
   subst c6
   rw [if_pos rfl] at H
   by_cases c7 : x7_1 > 0
   case neg =>
    rw [if_neg c7] at H
    have c7b0 := decide_eq_false c7
    clear c7
    have H' := a0_ H
    clear H
    have p596 : 0 ≤ (x7_1 : Int) := dec_
    have q596 : x7_1 < (l0.length : Int) := dec_
    obtain ⟨ad596, e596, hx596_0, hx596_1, hx596_2, hx596_3⟩ := at_T72 HR0.out x7_1 p596 q596
    cases e596
    obtain ⟨hx596_0, hx596_1, hx596_2, hx596_3⟩ := up4_ HB.out hx596_0 hx596_1 hx596_2 hx596_3
    replace p596 := eq_true p596
    replace q596 := eq_true q596
    try go_wp2_with (first | ((with_reducible refine gate_dst (N := 4) rfl ?_); refine boxS_ 4 #[.string (⟨#[]⟩ : ByteArray), .int .i64 0, .int .i64 0, .string (⟨#[]⟩ : ByteArray)] 72 (fun gb597 hg w25 hbox hb => ?_); have n0_ := a0_ (below_step bq0_ hb); have n1_ := a0_ (hbox); have n2_ := a0_ (gw_ hg : w.heap.size ≤ gb597); have n3_ := n2_; clear HB; have HB := n0_; have BK597 := n1_; have GW597 := n2_; have GE597 := n3_; clear n0_ n1_ n2_ n3_; clear hb hbox hg; obtain ⟨z26_0, z26_1, z26_2, z26_3, q26_0, q26_1, q26_2, q26_3⟩ := bk4_ BK597.out))
    have n0_ : Aside0 (((((w25.setCell ⟨gb597, 0, none⟩ (.string ((rd_T72 l0 x7_1).f0))).setCell ⟨gb597, 1, none⟩ (.int .i64 ((rd_T72 l0 x7_1).f1))).setCell ⟨gb597, 2, none⟩ (.int .i64 ((rd_T72 l0 x7_1).f2))).setCell ⟨gb597, 3, none⟩ (.string ((rd_T72 l0 x7_1).f3))).heap[gb597]? = some (.cells #[.string ((rd_T72 l0 x7_1).f0), .int .i64 ((rd_T72 l0 x7_1).f1), .int .i64 ((rd_T72 l0 x7_1).f2), .string ((rd_T72 l0 x7_1).f3)] 72 (0, 0))) := ⟨put4_ BK597.out⟩
    have n1_ : Aside0 (Below w.heap.size w ((((w25.setCell ⟨gb597, 0, none⟩ (.string ((rd_T72 l0 x7_1).f0))).setCell ⟨gb597, 1, none⟩ (.int .i64 ((rd_T72 l0 x7_1).f1))).setCell ⟨gb597, 2, none⟩ (.int .i64 ((rd_T72 l0 x7_1).f2))).setCell ⟨gb597, 3, none⟩ (.string ((rd_T72 l0 x7_1).f3)))) := ⟨bq1_⟩
    (try clear BK597)
    (try clear HB)
    generalize ((((w25.setCell ⟨gb597, 0, none⟩ (.string ((rd_T72 l0 x7_1).f0))).setCell ⟨gb597, 1, none⟩ (.int .i64 ((rd_T72 l0 x7_1).f1))).setCell ⟨gb597, 2, none⟩ (.int .i64 ((rd_T72 l0 x7_1).f2))).setCell ⟨gb597, 3, none⟩ (.string ((rd_T72 l0 x7_1).f3))) = w27 at n0_ n1_ ⊢
    have BK597 := n0_
    have HB := n1_
    clear n0_ n1_
    replace BK597 := a0_ (blk_drew BK597.out)
    replace HB := a0_ (below_drew1 HB.out)
    refine start_ (n := 17) (S := fun w' => w'.cell? ⟨gb597, 0, none⟩ = some (.string ((rd_T72 l0 x7_1).f0)) ∧ w'.cell? ⟨gb597, 1, none⟩ = some (.int .i64 ((rd_T72 l0 x7_1).f1)) ∧ w'.cell? ⟨gb597, 2, none⟩ = some (.int .i64 ((rd_T72 l0 x7_1).f2)) ∧ w'.cell? ⟨gb597, 3, none⟩ = some (.string ((rd_T72 l0 x7_1).f3))) (ds := []) #[false, false, false, false, false, false, false, false, false, false, false, false, false, false, false, false, false] (by kernel_rfl) rfl rfl ⟨(blk_cell BK597.out 0).trans rfl, (blk_cell BK597.out 1).trans rfl, (blk_cell BK597.out 2).trans rfl, (blk_cell BK597.out 3).trans rfl⟩ (fun hHeld => ?_); refine with_tabW impl_areRising.tab4 impl_areRising.bits4 (fun HT_ HW_ => ?_)
    generalize w27.drew = w28 at BK597 HB hHeld ⊢
    refine takeS_ 0 (some 12) ?_
    refine oneS_ 1 (some 13) (fun K hK => ?_)
    refine goes_ Tryz.func106 (by kernel_rfl) rfl #[.agg #[.string ((rd_T72 l0 x7_1).f0), .int .i64 ((rd_T72 l0 x7_1).f1), .int .i64 ((rd_T72 l0 x7_1).f2), .string ((rd_T72 l0 x7_1).f3)]] (by rfl) rfl rfl argsS_ ?_
    with_reducible refine (impl_GoodRecord.calls k1 ((rd_T72 l0 x7_1).f0) ((rd_T72 l0 x7_1).f1) ((rd_T72 l0 x7_1).f2) ((rd_T72 l0 x7_1).f3) true _ A5.out).mono ?_
    rintro e w29 ⟨rfl, hb⟩
    refine ⟨_, rfl, ?_⟩
    replace BK597 := a0_ (bkB_ BK597 hb)
    replace HB := a0_ (below_step bq1_ hb)
    (try clear hb)
    (try clear hb2)
    (try clear hk)
    (try clear hi)
    refine hK.out _ _ ⟨(blk_cell BK597.out 0).trans rfl, (blk_cell BK597.out 1).trans rfl, (blk_cell BK597.out 2).trans rfl, (blk_cell BK597.out 3).trans rfl⟩ (fun hHeld => ?_)
    clear hK K
    refine normS_ ?_
    refine pureS_ 2 (some 14) ?_
    refine pureS_ 3 (some 15) ?_
    refine pureS_ 4 (some 16) ?_
    refine pureS_ 5 (some 17) ?_
    refine pureS_ 6 (some 18) ?_
    refine skipS_ 7 (some 19) ?_
    refine skipS_ 8 (some 20) ?_
    refine skipS_ 9 (some 21) ?_
    refine skipS_ 10 (some 22) ?_
    refine skipS_ 11 (some 23) ?_
    refine skipS_ 12 (some 24) ?_
    refine skipS_ 13 (some 25) ?_
    refine skipS_ 14 (some 26) ?_
    refine pureS_ 15 (some 27) ?_
    refine pureS_ 16 (some 28) ?_
    refine done_ (done_of HT_.out (by kernel_rfl)) ?_
    try go_wp2
    go_roundg k1
    case measure => have := HK1.out; omega
    case rel => exact ⟨(wrap64 (x7_1 + 1)), rs_, H', ⟨by have := HK1.out; omega⟩, ⟨bq1_⟩⟩
   rw [if_pos c7] at H
   have c7b0 := decide_eq_true c7
   clear c7
   obtain ⟨ji8, hji8⟩ : ∃ j_ : Int, (wrap64 (x7_1 - 1)) = j_ := ⟨_, rfl⟩
   replace H : (if 0 ≤ (ji8) then (if (ji8) < (l0.length : Int) then ((impl_compareRecords.f k1 ((rd_T72 l0 (ji8)).f0) ((rd_T72 l0 (ji8)).f1) ((rd_T72 l0 (ji8)).f2) ((rd_T72 l0 (ji8)).f3) ((rd_T72 l0 x7_1).f0) ((rd_T72 l0 x7_1).f1) ((rd_T72 l0 x7_1).f2) ((rd_T72 l0 x7_1).f3)).bind fun t600 => (if t600 ≥ 0 then (some false) else (impl_areRising.l0 k1 l0 l0 (l0.length : Int) (wrap64 (x7_1 + 1))))) else (none)) else (none)) = some r := by first | (rw [hji8] at H; exact H) | (simp only [hji8] at H ⊢; exact H)
   (try rw [hji8] at A5)
   have hji8w : (IntKind.i64.wrap (x7_1 - 1)) = ji8 := (i64_w _).trans hji8
   by_cases c9 : 0 ≤ (ji8)
   case neg =>
    rw [if_neg c9] at H
    exact absurd H (by simp)
   rw [if_pos c9] at H
   have c9b0 := decide_eq_true c9
   clear c9
   by_cases c10 : (ji8) < (l0.length : Int)
   case neg =>
    rw [if_neg c10] at H
    exact absurd H (by simp)
   rw [if_pos c10] at H
   have c10b0 := decide_eq_true c10
   clear c10
   obtain ⟨t600, A110, H⟩ := Option.bind_eq_some_iff.mp H
   have A11 := a0_ A110
   clear A110
   by_cases c12 : t600 ≥ 0
   case pos =>
    rw [if_pos c12] at H
    have c12b0 := decide_eq_true c12
    clear c12
    obtain rfl := Option.some.inj H
    have p596 : 0 ≤ (x7_1 : Int) := dec_
    have q596 : x7_1 < (l0.length : Int) := dec_
    obtain ⟨ad596, e596, hx596_0, hx596_1, hx596_2, hx596_3⟩ := at_T72 HR0.out x7_1 p596 q596
    cases e596
    obtain ⟨hx596_0, hx596_1, hx596_2, hx596_3⟩ := up4_ HB.out hx596_0 hx596_1 hx596_2 hx596_3
    replace p596 := eq_true p596
    replace q596 := eq_true q596
    try go_wp2_with (first | ((with_reducible refine gate_dst (N := 4) rfl ?_); refine boxS_ 4 #[.string (⟨#[]⟩ : ByteArray), .int .i64 0, .int .i64 0, .string (⟨#[]⟩ : ByteArray)] 72 (fun gb597 hg w13 hbox hb => ?_); have n0_ := a0_ (below_step bq0_ hb); have n1_ := a0_ (hbox); have n2_ := a0_ (gw_ hg : w.heap.size ≤ gb597); have n3_ := n2_; clear HB; have HB := n0_; have BK597 := n1_; have GW597 := n2_; have GE597 := n3_; clear n0_ n1_ n2_ n3_; clear hb hbox hg; obtain ⟨z14_0, z14_1, z14_2, z14_3, q14_0, q14_1, q14_2, q14_3⟩ := bk4_ BK597.out))
    have n0_ : Aside0 (((((w13.setCell ⟨gb597, 0, none⟩ (.string ((rd_T72 l0 x7_1).f0))).setCell ⟨gb597, 1, none⟩ (.int .i64 ((rd_T72 l0 x7_1).f1))).setCell ⟨gb597, 2, none⟩ (.int .i64 ((rd_T72 l0 x7_1).f2))).setCell ⟨gb597, 3, none⟩ (.string ((rd_T72 l0 x7_1).f3))).heap[gb597]? = some (.cells #[.string ((rd_T72 l0 x7_1).f0), .int .i64 ((rd_T72 l0 x7_1).f1), .int .i64 ((rd_T72 l0 x7_1).f2), .string ((rd_T72 l0 x7_1).f3)] 72 (0, 0))) := ⟨put4_ BK597.out⟩
    have n1_ : Aside0 (Below w.heap.size w ((((w13.setCell ⟨gb597, 0, none⟩ (.string ((rd_T72 l0 x7_1).f0))).setCell ⟨gb597, 1, none⟩ (.int .i64 ((rd_T72 l0 x7_1).f1))).setCell ⟨gb597, 2, none⟩ (.int .i64 ((rd_T72 l0 x7_1).f2))).setCell ⟨gb597, 3, none⟩ (.string ((rd_T72 l0 x7_1).f3)))) := ⟨bq1_⟩
    (try clear BK597)
    (try clear HB)
    generalize ((((w13.setCell ⟨gb597, 0, none⟩ (.string ((rd_T72 l0 x7_1).f0))).setCell ⟨gb597, 1, none⟩ (.int .i64 ((rd_T72 l0 x7_1).f1))).setCell ⟨gb597, 2, none⟩ (.int .i64 ((rd_T72 l0 x7_1).f2))).setCell ⟨gb597, 3, none⟩ (.string ((rd_T72 l0 x7_1).f3))) = w15 at n0_ n1_ ⊢
    have BK597 := n0_
    have HB := n1_
    clear n0_ n1_
    replace BK597 := a0_ (blk_drew BK597.out)
    replace HB := a0_ (below_drew1 HB.out)
    have p599 : 0 ≤ ((ji8) : Int) := dec_
    have q599 : (ji8) < (l0.length : Int) := dec_
    obtain ⟨ad599, e599, hx599_0, hx599_1, hx599_2, hx599_3⟩ := at_T72 HR0.out (ji8) p599 q599
    have hw599_3 := hx599_3
    have hw599_2 := hx599_2
    have hw599_1 := hx599_1
    have hw599_0 := hx599_0
    obtain rfl : ad596 = ad599 := (by injection e599)
    obtain ⟨hx599_0, hx599_1, hx599_2, hx599_3⟩ := up4_ HB.out hx599_0 hx599_1 hx599_2 hx599_3
    replace p599 := eq_true p599
    replace q599 := eq_true q599
    refine start_ (n := 17) (S := fun w' => w'.cell? ⟨gb597, 0, none⟩ = some (.string ((rd_T72 l0 x7_1).f0)) ∧ w'.cell? ⟨gb597, 1, none⟩ = some (.int .i64 ((rd_T72 l0 x7_1).f1)) ∧ w'.cell? ⟨gb597, 2, none⟩ = some (.int .i64 ((rd_T72 l0 x7_1).f2)) ∧ w'.cell? ⟨gb597, 3, none⟩ = some (.string ((rd_T72 l0 x7_1).f3)) ∧ w'.cell? (ad596.add (((ji8)).toNat * 4)) = some (.string ((rd_T72 l0 (ji8)).f0)) ∧ w'.cell? ⟨(ad596.add (((ji8)).toNat * 4)).block, (ad596.add (((ji8)).toNat * 4)).off + 1, none⟩ = some (.int .i64 ((rd_T72 l0 (ji8)).f1)) ∧ w'.cell? ⟨(ad596.add (((ji8)).toNat * 4)).block, (ad596.add (((ji8)).toNat * 4)).off + 2, none⟩ = some (.int .i64 ((rd_T72 l0 (ji8)).f2)) ∧ w'.cell? ⟨(ad596.add (((ji8)).toNat * 4)).block, (ad596.add (((ji8)).toNat * 4)).off + 3, none⟩ = some (.string ((rd_T72 l0 (ji8)).f3))) (ds := []) #[false, false, false, false, false, false, false, false, false, false, false, false, false, false, false, false, false] (by kernel_rfl) rfl rfl ⟨(blk_cell BK597.out 0).trans rfl, (blk_cell BK597.out 1).trans rfl, (blk_cell BK597.out 2).trans rfl, (blk_cell BK597.out 3).trans rfl, ((HB.out.cell (World.block_lt_of_cell? w _ hw599_0)).trans hw599_0), ((HB.out.cell (World.block_lt_of_cell? w _ hw599_1)).trans hw599_1), ((HB.out.cell (World.block_lt_of_cell? w _ hw599_2)).trans hw599_2), ((HB.out.cell (World.block_lt_of_cell? w _ hw599_3)).trans hw599_3)⟩ (fun hHeld => ?_); refine with_tabW impl_areRising.tab4 impl_areRising.bits4 (fun HT_ HW_ => ?_)
    generalize w15.drew = w16 at BK597 HB hx599_0 hx599_1 hx599_2 hx599_3 hHeld ⊢
    refine takeS_ 0 (some 12) ?_
    refine oneS_ 1 (some 13) (fun K hK => ?_)
    refine goes_ Tryz.func106 (by kernel_rfl) rfl #[.agg #[.string ((rd_T72 l0 x7_1).f0), .int .i64 ((rd_T72 l0 x7_1).f1), .int .i64 ((rd_T72 l0 x7_1).f2), .string ((rd_T72 l0 x7_1).f3)]] (by rfl) rfl rfl argsS_ ?_
    with_reducible refine (impl_GoodRecord.calls k1 ((rd_T72 l0 x7_1).f0) ((rd_T72 l0 x7_1).f1) ((rd_T72 l0 x7_1).f2) ((rd_T72 l0 x7_1).f3) true _ A5.out).mono ?_
    rintro e w17 ⟨rfl, hb⟩
    refine ⟨_, rfl, ?_⟩
    replace BK597 := a0_ (bkB_ BK597 hb)
    replace HB := a0_ (below_step bq1_ hb)
    (try clear hb)
    (try clear hb2)
    (try clear hk)
    (try clear hi)
    refine hK.out _ _ ⟨(blk_cell BK597.out 0).trans rfl, (blk_cell BK597.out 1).trans rfl, (blk_cell BK597.out 2).trans rfl, (blk_cell BK597.out 3).trans rfl, ((HB.out.cell (World.block_lt_of_cell? w _ hw599_0)).trans hw599_0), ((HB.out.cell (World.block_lt_of_cell? w _ hw599_1)).trans hw599_1), ((HB.out.cell (World.block_lt_of_cell? w _ hw599_2)).trans hw599_2), ((HB.out.cell (World.block_lt_of_cell? w _ hw599_3)).trans hw599_3)⟩ (fun hHeld => ?_)
    clear hK K
    refine normS_ ?_
    refine pureS_ 2 (some 14) ?_
    refine pureS_ 3 (some 15) ?_
    refine pureS_ 4 (some 16) ?_
    refine pureS_ 5 (some 17) ?_
    refine pureS_ 6 (some 18) ?_
    refine pureS_ 7 (some 19) ?_
    refine pureS_ 8 (some 20) ?_
    refine pureS_ 9 (some 21) ?_
    refine pureS_ 10 (some 22) ?_
    refine takeS_ 11 (some 23) ?_
    refine takeS_ 12 (some 24) ?_
    refine oneS_ 13 (some 25) (fun K hK => ?_)
    refine goes_ Tryz.func114 (by kernel_rfl) rfl #[.agg #[.string ((rd_T72 l0 (ji8)).f0), .int .i64 ((rd_T72 l0 (ji8)).f1), .int .i64 ((rd_T72 l0 (ji8)).f2), .string ((rd_T72 l0 (ji8)).f3)], .agg #[.string ((rd_T72 l0 x7_1).f0), .int .i64 ((rd_T72 l0 x7_1).f1), .int .i64 ((rd_T72 l0 x7_1).f2), .string ((rd_T72 l0 x7_1).f3)]] (by rfl) rfl rfl (by (try simp only [List.map_toArray, List.map_cons, List.map_nil]); first | done | (simp only [hji8]; rfl) | rfl | (simp only [List.length_drop, List.length_take]; rfl)) ?_
    with_reducible refine (impl_compareRecords.calls k1 ((rd_T72 l0 (ji8)).f0) ((rd_T72 l0 (ji8)).f1) ((rd_T72 l0 (ji8)).f2) ((rd_T72 l0 (ji8)).f3) ((rd_T72 l0 x7_1).f0) ((rd_T72 l0 x7_1).f1) ((rd_T72 l0 x7_1).f2) ((rd_T72 l0 x7_1).f3) t600 _ A11.out).mono ?_
    rintro e w18 ⟨rfl, hb⟩
    refine ⟨_, rfl, ?_⟩
    replace BK597 := a0_ (bkB_ BK597 hb)
    replace HB := a0_ (below_step bq1_ hb)
    (try clear hb)
    (try clear hb2)
    (try clear hk)
    (try clear hi)
    refine hK.out _ _ ⟨(blk_cell BK597.out 0).trans rfl, (blk_cell BK597.out 1).trans rfl, (blk_cell BK597.out 2).trans rfl, (blk_cell BK597.out 3).trans rfl, ((HB.out.cell (World.block_lt_of_cell? w _ hw599_0)).trans hw599_0), ((HB.out.cell (World.block_lt_of_cell? w _ hw599_1)).trans hw599_1), ((HB.out.cell (World.block_lt_of_cell? w _ hw599_2)).trans hw599_2), ((HB.out.cell (World.block_lt_of_cell? w _ hw599_3)).trans hw599_3)⟩ (fun hHeld => ?_)
    clear hK K
    refine normS_ ?_
    refine pureS_ 14 (some 26) ?_
    refine pureS_ 15 (some 27) ?_
    refine pureS_ 16 (some 28) ?_
    refine done_ (done_of HT_.out (by kernel_rfl)) ?_
    try go_wp2
    go_ret
    exact ⟨by first | rfl | (simp [errW_none, errW_some] <;> rfl) | (simp only [← hji8]; first | rfl | (simp [errW_none, errW_some] <;> rfl)) | (simp [*, errW_none, errW_some] <;> rfl), bq1_⟩
   rw [if_neg c12] at H
   have c12b0 := decide_eq_false c12
   clear c12
   have H' := a0_ H
   clear H
   have p596 : 0 ≤ (x7_1 : Int) := dec_
   have q596 : x7_1 < (l0.length : Int) := dec_
   obtain ⟨ad596, e596, hx596_0, hx596_1, hx596_2, hx596_3⟩ := at_T72 HR0.out x7_1 p596 q596
   cases e596
   obtain ⟨hx596_0, hx596_1, hx596_2, hx596_3⟩ := up4_ HB.out hx596_0 hx596_1 hx596_2 hx596_3
   replace p596 := eq_true p596
   replace q596 := eq_true q596
   try go_wp2_with (first | ((with_reducible refine gate_dst (N := 4) rfl ?_); refine boxS_ 4 #[.string (⟨#[]⟩ : ByteArray), .int .i64 0, .int .i64 0, .string (⟨#[]⟩ : ByteArray)] 72 (fun gb597 hg w19 hbox hb => ?_); have n0_ := a0_ (below_step bq0_ hb); have n1_ := a0_ (hbox); have n2_ := a0_ (gw_ hg : w.heap.size ≤ gb597); have n3_ := n2_; clear HB; have HB := n0_; have BK597 := n1_; have GW597 := n2_; have GE597 := n3_; clear n0_ n1_ n2_ n3_; clear hb hbox hg; obtain ⟨z20_0, z20_1, z20_2, z20_3, q20_0, q20_1, q20_2, q20_3⟩ := bk4_ BK597.out))
   have n0_ : Aside0 (((((w19.setCell ⟨gb597, 0, none⟩ (.string ((rd_T72 l0 x7_1).f0))).setCell ⟨gb597, 1, none⟩ (.int .i64 ((rd_T72 l0 x7_1).f1))).setCell ⟨gb597, 2, none⟩ (.int .i64 ((rd_T72 l0 x7_1).f2))).setCell ⟨gb597, 3, none⟩ (.string ((rd_T72 l0 x7_1).f3))).heap[gb597]? = some (.cells #[.string ((rd_T72 l0 x7_1).f0), .int .i64 ((rd_T72 l0 x7_1).f1), .int .i64 ((rd_T72 l0 x7_1).f2), .string ((rd_T72 l0 x7_1).f3)] 72 (0, 0))) := ⟨put4_ BK597.out⟩
   have n1_ : Aside0 (Below w.heap.size w ((((w19.setCell ⟨gb597, 0, none⟩ (.string ((rd_T72 l0 x7_1).f0))).setCell ⟨gb597, 1, none⟩ (.int .i64 ((rd_T72 l0 x7_1).f1))).setCell ⟨gb597, 2, none⟩ (.int .i64 ((rd_T72 l0 x7_1).f2))).setCell ⟨gb597, 3, none⟩ (.string ((rd_T72 l0 x7_1).f3)))) := ⟨bq1_⟩
   (try clear BK597)
   (try clear HB)
   generalize ((((w19.setCell ⟨gb597, 0, none⟩ (.string ((rd_T72 l0 x7_1).f0))).setCell ⟨gb597, 1, none⟩ (.int .i64 ((rd_T72 l0 x7_1).f1))).setCell ⟨gb597, 2, none⟩ (.int .i64 ((rd_T72 l0 x7_1).f2))).setCell ⟨gb597, 3, none⟩ (.string ((rd_T72 l0 x7_1).f3))) = w21 at n0_ n1_ ⊢
   have BK597 := n0_
   have HB := n1_
   clear n0_ n1_
   replace BK597 := a0_ (blk_drew BK597.out)
   replace HB := a0_ (below_drew1 HB.out)
   have p599 : 0 ≤ ((ji8) : Int) := dec_
   have q599 : (ji8) < (l0.length : Int) := dec_
   obtain ⟨ad599, e599, hx599_0, hx599_1, hx599_2, hx599_3⟩ := at_T72 HR0.out (ji8) p599 q599
   have hw599_3 := hx599_3
   have hw599_2 := hx599_2
   have hw599_1 := hx599_1
   have hw599_0 := hx599_0
   obtain rfl : ad596 = ad599 := (by injection e599)
   obtain ⟨hx599_0, hx599_1, hx599_2, hx599_3⟩ := up4_ HB.out hx599_0 hx599_1 hx599_2 hx599_3
   replace p599 := eq_true p599
   replace q599 := eq_true q599
   refine start_ (n := 17) (S := fun w' => w'.cell? ⟨gb597, 0, none⟩ = some (.string ((rd_T72 l0 x7_1).f0)) ∧ w'.cell? ⟨gb597, 1, none⟩ = some (.int .i64 ((rd_T72 l0 x7_1).f1)) ∧ w'.cell? ⟨gb597, 2, none⟩ = some (.int .i64 ((rd_T72 l0 x7_1).f2)) ∧ w'.cell? ⟨gb597, 3, none⟩ = some (.string ((rd_T72 l0 x7_1).f3)) ∧ w'.cell? (ad596.add (((ji8)).toNat * 4)) = some (.string ((rd_T72 l0 (ji8)).f0)) ∧ w'.cell? ⟨(ad596.add (((ji8)).toNat * 4)).block, (ad596.add (((ji8)).toNat * 4)).off + 1, none⟩ = some (.int .i64 ((rd_T72 l0 (ji8)).f1)) ∧ w'.cell? ⟨(ad596.add (((ji8)).toNat * 4)).block, (ad596.add (((ji8)).toNat * 4)).off + 2, none⟩ = some (.int .i64 ((rd_T72 l0 (ji8)).f2)) ∧ w'.cell? ⟨(ad596.add (((ji8)).toNat * 4)).block, (ad596.add (((ji8)).toNat * 4)).off + 3, none⟩ = some (.string ((rd_T72 l0 (ji8)).f3))) (ds := []) #[false, false, false, false, false, false, false, false, false, false, false, false, false, false, false, false, false] (by kernel_rfl) rfl rfl ⟨(blk_cell BK597.out 0).trans rfl, (blk_cell BK597.out 1).trans rfl, (blk_cell BK597.out 2).trans rfl, (blk_cell BK597.out 3).trans rfl, ((HB.out.cell (World.block_lt_of_cell? w _ hw599_0)).trans hw599_0), ((HB.out.cell (World.block_lt_of_cell? w _ hw599_1)).trans hw599_1), ((HB.out.cell (World.block_lt_of_cell? w _ hw599_2)).trans hw599_2), ((HB.out.cell (World.block_lt_of_cell? w _ hw599_3)).trans hw599_3)⟩ (fun hHeld => ?_); refine with_tabW impl_areRising.tab4 impl_areRising.bits4 (fun HT_ HW_ => ?_)
   generalize w21.drew = w22 at BK597 HB hx599_0 hx599_1 hx599_2 hx599_3 hHeld ⊢
   refine takeS_ 0 (some 12) ?_
   refine oneS_ 1 (some 13) (fun K hK => ?_)
   refine goes_ Tryz.func106 (by kernel_rfl) rfl #[.agg #[.string ((rd_T72 l0 x7_1).f0), .int .i64 ((rd_T72 l0 x7_1).f1), .int .i64 ((rd_T72 l0 x7_1).f2), .string ((rd_T72 l0 x7_1).f3)]] (by rfl) rfl rfl argsS_ ?_
   with_reducible refine (impl_GoodRecord.calls k1 ((rd_T72 l0 x7_1).f0) ((rd_T72 l0 x7_1).f1) ((rd_T72 l0 x7_1).f2) ((rd_T72 l0 x7_1).f3) true _ A5.out).mono ?_
   rintro e w23 ⟨rfl, hb⟩
   refine ⟨_, rfl, ?_⟩
   replace BK597 := a0_ (bkB_ BK597 hb)
   replace HB := a0_ (below_step bq1_ hb)
   (try clear hb)
   (try clear hb2)
   (try clear hk)
   (try clear hi)
   refine hK.out _ _ ⟨(blk_cell BK597.out 0).trans rfl, (blk_cell BK597.out 1).trans rfl, (blk_cell BK597.out 2).trans rfl, (blk_cell BK597.out 3).trans rfl, ((HB.out.cell (World.block_lt_of_cell? w _ hw599_0)).trans hw599_0), ((HB.out.cell (World.block_lt_of_cell? w _ hw599_1)).trans hw599_1), ((HB.out.cell (World.block_lt_of_cell? w _ hw599_2)).trans hw599_2), ((HB.out.cell (World.block_lt_of_cell? w _ hw599_3)).trans hw599_3)⟩ (fun hHeld => ?_)
   clear hK K
   refine normS_ ?_
   refine pureS_ 2 (some 14) ?_
   refine pureS_ 3 (some 15) ?_
   refine pureS_ 4 (some 16) ?_
   refine pureS_ 5 (some 17) ?_
   refine pureS_ 6 (some 18) ?_
   refine pureS_ 7 (some 19) ?_
   refine pureS_ 8 (some 20) ?_
   refine pureS_ 9 (some 21) ?_
   refine pureS_ 10 (some 22) ?_
   refine takeS_ 11 (some 23) ?_
   refine takeS_ 12 (some 24) ?_
   refine oneS_ 13 (some 25) (fun K hK => ?_)
   refine goes_ Tryz.func114 (by kernel_rfl) rfl #[.agg #[.string ((rd_T72 l0 (ji8)).f0), .int .i64 ((rd_T72 l0 (ji8)).f1), .int .i64 ((rd_T72 l0 (ji8)).f2), .string ((rd_T72 l0 (ji8)).f3)], .agg #[.string ((rd_T72 l0 x7_1).f0), .int .i64 ((rd_T72 l0 x7_1).f1), .int .i64 ((rd_T72 l0 x7_1).f2), .string ((rd_T72 l0 x7_1).f3)]] (by rfl) rfl rfl (by (try simp only [List.map_toArray, List.map_cons, List.map_nil]); first | done | (simp only [hji8]; rfl) | rfl | (simp only [List.length_drop, List.length_take]; rfl)) ?_
   with_reducible refine (impl_compareRecords.calls k1 ((rd_T72 l0 (ji8)).f0) ((rd_T72 l0 (ji8)).f1) ((rd_T72 l0 (ji8)).f2) ((rd_T72 l0 (ji8)).f3) ((rd_T72 l0 x7_1).f0) ((rd_T72 l0 x7_1).f1) ((rd_T72 l0 x7_1).f2) ((rd_T72 l0 x7_1).f3) t600 _ A11.out).mono ?_
   rintro e w24 ⟨rfl, hb⟩
   refine ⟨_, rfl, ?_⟩
   replace BK597 := a0_ (bkB_ BK597 hb)
   replace HB := a0_ (below_step bq1_ hb)
   (try clear hb)
   (try clear hb2)
   (try clear hk)
   (try clear hi)
   refine hK.out _ _ ⟨(blk_cell BK597.out 0).trans rfl, (blk_cell BK597.out 1).trans rfl, (blk_cell BK597.out 2).trans rfl, (blk_cell BK597.out 3).trans rfl, ((HB.out.cell (World.block_lt_of_cell? w _ hw599_0)).trans hw599_0), ((HB.out.cell (World.block_lt_of_cell? w _ hw599_1)).trans hw599_1), ((HB.out.cell (World.block_lt_of_cell? w _ hw599_2)).trans hw599_2), ((HB.out.cell (World.block_lt_of_cell? w _ hw599_3)).trans hw599_3)⟩ (fun hHeld => ?_)
   clear hK K
   refine normS_ ?_
   refine pureS_ 14 (some 26) ?_
   refine pureS_ 15 (some 27) ?_
   refine pureS_ 16 (some 28) ?_
   refine done_ (done_of HT_.out (by kernel_rfl)) ?_
   try go_wp2
   go_roundg k1
   case measure => have := HK1.out; omega
   case rel => exact ⟨(wrap64 (x7_1 + 1)), rs_, H', ⟨by have := HK1.out; omega⟩, ⟨bq1_⟩⟩
end Go.Proofs.YtkpkfallgjdkmaaGreatDoor.P
namespace Go.Proofs.YtkpkfallgjdkmaaGreatDoor.Pure
open Go.RowKit Go.Proofs.YtkpkfallgjdkmaaGreatDoor.P Go.Proofs.YtkpkfallgjdkmaaGreatDoorW.PrintWords Go.Proofs.YtkpkfallgjdkmaaGreatDoorW.PrintLast
set_option linter.unusedVariables false
set_option linter.unusedSimpArgs false
theorem sn_rd (L : List (List UInt8)) (i : Nat) (h : i < L.length) : rdOf ByteArray.empty (L.map mkB) (i : Int) = mkB L[i] := by
 unfold rdOf
 rw [Int.toNat_natCast, List.getD_eq_getElem?_getD, List.getElem?_eq_getElem (by rw [List.length_map]; exact h)]
 simp
def Rising (L : List (List UInt8)) : Prop := L.Pairwise fun x y => ordL x y < 0
theorem rising_put (L : List (List UInt8)) (s : List UInt8) (i : Nat) (hi : i ≤ L.length) (h : Rising L) (h1 : ∀ j (hj : j < L.length), j < i → ordL L[j] s < 0) (h2 : ∀ hi' : i < L.length, ordL s L[i] < 0) :
 Rising (L.take i ++ [s] ++ L.drop i) ∧ ∀ x, x ∈ L.take i ++ [s] ++ L.drop i ↔ x ∈ L ∨ x = s := by
 constructor
 · have hp := List.pairwise_iff_getElem.1 h
   rw [List.append_assoc, List.singleton_append]
   refine List.pairwise_append.2 ⟨h.sublist (List.take_sublist _ _), ?_, ?_⟩
   · refine List.pairwise_cons.2 ⟨fun y hy => ?_, h.sublist (List.drop_sublist _ _)⟩
     obtain ⟨j, hj, rfl⟩ := List.mem_iff_getElem.1 hy
     rw [List.length_drop] at hj
     rw [List.getElem_drop]
     have h3 := h2 (by omega)
     by_cases e : j = 0
     · subst e; simpa using h3
     · exact ord_trans h3 (hp i (i + j) (by omega) (by omega) (by omega))
   · intro x hx y hy
     obtain ⟨j, hj, rfl⟩ := List.mem_iff_getElem.1 hx
     rw [List.length_take] at hj
     rw [List.getElem_take]
     have h3 := h1 j (by omega) (by omega)
     rcases List.mem_cons.1 hy with rfl | hy
     · exact h3
     · obtain ⟨k, hk, rfl⟩ := List.mem_iff_getElem.1 hy
       rw [List.length_drop] at hk
       rw [List.getElem_drop]
       exact hp j (i + k) (by omega) (by omega) (by omega)
 · intro x
   have e : x ∈ L ↔ x ∈ L.take i ∨ x ∈ L.drop i := by
    conv => lhs; rw [← List.take_append_drop i L]
    rw [List.mem_append]
   rw [e]
   simp only [List.mem_append, List.mem_singleton]
   constructor
   · rintro ((h | h) | h)
     · exact .inl (.inl h)
     · exact .inr h
     · exact .inl (.inr h)
   · rintro ((h | h) | h)
     · exact .inl (.inl h)
     · exact .inr h
     · exact .inl (.inr h)
theorem put_ev (L : List (List UInt8)) (s : List UInt8) (hL : L.length < 1099511627776) (hg : ∀ x ∈ L, goodL x = true) (hs : goodL s = true) (h : Rising L) : ∀ (m i : Nat), i + m = L.length → (∀ j (hj : j < L.length), j < i → ordL L[j] s < 0) →
 ∃ r, Ev (fun k => spec_l1Put.l0 k (L.map mkB) (mkB s) (i : Int)) (r.map mkB) ∧ Rising r ∧ (∀ x, x ∈ r ↔ x ∈ L ∨ x = s) ∧ r.length ≤ L.length + 1
 | 0, i, him, hb => by
  obtain ⟨p1, p2⟩ := rising_put L s i (by omega) h hb (fun hi => by omega)
  refine ⟨L.take i ++ [s] ++ L.drop i, Ev.step (f := fun _ => some ((L.take i ++ [s] ++ L.drop i).map mkB)) (fun k => ?_) (Ev.now _), p1, p2, by simp; omega⟩
  show spec_l1Put.l0 (k + 1) (L.map mkB) (mkB s) (i : Int) = _
  conv => lhs; unfold spec_l1Put.l0
  rw [List.length_map, if_neg (by omega), if_pos (by omega), if_pos (by omega), Option.bind_some, Int.toNat_natCast, if_pos (by simp; omega), Option.bind_some, if_pos (by simp; omega), Option.bind_some, Option.bind_some, if_pos (by simp; omega)]
  simp
 | m + 1, i, him, hb => by
  have hi : i < L.length := by omega
  have gi := hg _ (List.getElem_mem hi)
  have hsz := good_size gi
  have hsz2 := good_size hs
  have hc := specComp_ev (mkB L[i]) (mkB s) (by rw [mkB_size]; omega) (by rw [mkB_size]; omega) (by rw [mkB_data]; exact gi) (by rw [mkB_data]; exact hs)
  rw [mkB_data, mkB_data] at hc
  have es : ∀ k, spec_l1Put.l0 (k + 1) (L.map mkB) (mkB s) (i : Int) = (spec_l1Compare.f k (mkB L[i]) (mkB s)).bind fun t129 => (if t129 < 0 then (spec_l1Put.l0 k (L.map mkB) (mkB s) ((i + 1 : Nat) : Int)) else (if (mkB L[i]).toList = (mkB s).toList then (some (L.map mkB)) else some ((L.take i ++ [s] ++ L.drop i).map mkB))) := fun k => by
   conv => lhs; unfold spec_l1Put.l0
   rw [List.length_map, if_pos (by omega), if_pos (by omega), sn_rd L i hi, w64n (by omega)]
   congr 1
   funext t
   by_cases ht : t < 0
   · rw [if_pos ht, if_pos ht]
   · rw [if_neg ht, if_neg ht]
     by_cases he : (mkB L[i]).toList = (mkB s).toList
     · rw [if_pos he, if_pos he]
     · rw [if_neg he, if_neg he, if_pos (by omega), Option.bind_some, Int.toNat_natCast, if_pos (by simp; omega), Option.bind_some, if_pos (by simp; omega), Option.bind_some, Option.bind_some, if_pos (by simp; omega)]
       simp
  by_cases h1 : ordL L[i] s < 0
  · obtain ⟨r, g1, g2, g3, g4⟩ := put_ev L s hL hg hs h m (i + 1) (by omega) (fun j hj hji => by
     by_cases e : j = i
     · subst e; exact h1
     · exact hb j hj (by omega))
    refine ⟨r, Ev.step es (Ev.bind hc ?_), g2, g3, g4⟩
    simp only [if_pos h1]
    exact g1
  · by_cases h2 : L[i] = s
    · refine ⟨L, Ev.step es (Ev.bind hc ?_), h, fun x => ⟨fun hx => .inl hx, fun hx => ?_⟩, by omega⟩
      · simp only [if_neg h1, if_pos (show (mkB L[i]).toList = (mkB s).toList by rw [h2])]
        exact Ev.now _
      · rcases hx with hx | hx
        · exact hx
        · rw [hx, ← h2]; exact List.getElem_mem hi
    · have h3 : ordL s L[i] < 0 := by
       have a1 := ord_neg L[i] s
       have a2 := ord_range L[i] s
       have a3 := ord_zero L[i] s
       have : ordL L[i] s ≠ 0 := fun e => h2 (a3.1 e)
       omega
      obtain ⟨p1, p2⟩ := rising_put L s i (by omega) h hb (fun _ => h3)
      refine ⟨L.take i ++ [s] ++ L.drop i, Ev.step es (Ev.bind hc ?_), p1, p2, by simp; omega⟩
      have hne : ¬ (mkB L[i]).toList = (mkB s).toList := by
       rw [Lib.toList_data, Lib.toList_data, mkB_data, mkB_data]
       exact h2
      simp only [if_neg h1, if_neg hne]
      exact Ev.now _
end Go.Proofs.YtkpkfallgjdkmaaGreatDoor.Pure
namespace Go.Proofs.YtkpkfallgjdkmaaGreatDoor.P
open Go.RowKit Go.Proofs.YtkpkfallgjdkmaaGreatDoorW.PrintWords Go.Proofs.YtkpkfallgjdkmaaGreatDoorW.PrintLast Go.Proofs.YtkpkfallgjdkmaaGreatDoorW.PrintMore
attribute [local go_sem] max2_int min2_int max_two min_two max_three min_three max_four min_four
set_option linter.unusedVariables false
set_option linter.unusedSimpArgs false
def spec_NamesIn.f (k : Nat) (a0_0 : ByteArray) (a0_1 : Int) (l0_2 : List (S72)) : Option (List ByteArray × Bool) := (spec_GoodZone.f k a0_0 a0_1 l0_2).bind fun t962 => (if t962 = true then ((spec_l6Names.f k l0_2).bind fun t963 => (some (t963, true))) else (some (([] : List ByteArray), false)))
set_option maxHeartbeats 8000000 in
set_option maxRecDepth 100000 in
theorem spec_NamesIn.calls (k : Nat) (a0_0 : ByteArray) (a0_1 : Int) (A0_2 : Option Addr) (c0_2 : Nat) (l0_2 : List (S72)) (r1 : List ByteArray) (r2 : Bool) (w : World) (hr0_2 : Kd.C k72 w A0_2 l0_2.length l0_2) (hc0_2 : l0_2.length ≤ c0_2) (h : spec_NamesIn.f k a0_0 a0_1 l0_2 = some (r1, r2)) :
 Calls Tryz.prog 43 #[.agg #[.string a0_0, .int .i64 a0_1, .slice A0_2 l0_2.length c0_2]] w fun e w' => ∃ v0_ : Value, e = .returned (.tuple #[v0_, .bool r2]) ∧ Kd.R Kd.string 9 w' w.heap.size (fun _ => True) v0_ r1 ∧ Below w.heap.size w w' := by
 have hu42 := Tryz.underlying42
 have HR0_2 := a0_ hr0_2
 have HC0_2 := a0_ hc0_2
 clear hr0_2 hc0_2
 have HB := a0_ (Below.refl w.heap.size w)
 have H : ((spec_GoodZone.f k a0_0 a0_1 l0_2).bind fun t962 => (if t962 = true then ((spec_l6Names.f k l0_2).bind fun t963 => (some (t963, true))) else (some (([] : List ByteArray), false)))) = some (r1, r2) := h
 clear h
 obtain ⟨t962, A20, H⟩ := Option.bind_eq_some_iff.mp H
 have A2 := a0_ A20
 clear A20
 by_cases c3 : t962 = true
 case neg =>
  replace c3 := Bool.eq_false_iff.mpr c3
  subst c3
  rw [if_neg (show ¬ (false = true) by decide)] at H
  simp only [Option.some.injEq, Prod.mk.injEq] at H
  obtain ⟨rfl, rfl⟩ := H
  go_enter Tryz.func43, Tryz.ntmps43
  go_wp2_with (first | ((with_reducible refine gate_dst (N := 1) rfl ?_); refine boxS_ 1 #[.string a0_0, .int .i64 a0_1, .slice A0_2 l0_2.length c0_2] 42 (fun gb961 hg w10 hbox hb => ?_); have n0_ := a0_ (below_step bq0_ hb); have n1_ := a0_ (hbox); have n2_ := a0_ (gw_ hg : w.heap.size ≤ gb961); have n3_ := n2_; clear HB; have HB := n0_; have BK961 := n1_; have GW961 := n2_; have GE961 := n3_; clear n0_ n1_ n2_ n3_; clear hb hbox hg; obtain ⟨z11_0, z11_1, z11_2, q11_0, q11_1, q11_2⟩ := bk3_ BK961.out) | ((with_reducible refine gate_callee (f := 33) rfl ?_); refine goesL_ (some 5) rfl rfl Tryz.func33 (by kernel_rfl) rfl #[.agg #[.string a0_0, .int .i64 a0_1, .slice A0_2 l0_2.length c0_2]] rfl argsS_ ?_; (with_reducible refine (spec_GoodZone.calls k a0_0 a0_1 _ _ l0_2 false _ ?side1 ?side2 A2.out).mono ?_); (case side1 => exact kC_ HR0_2.out HB.out); (case side2 => exact HC0_2.out); rintro e w12 ⟨rfl, hb⟩; refine ⟨_, rfl, ?_⟩; replace BK961 := a0_ (bkB_ BK961 hb); replace HB := a0_ (below_step bq1_ hb); (try clear hb); (try clear hb2); (try clear hk); (try clear hi)))
  go_ret2
  exact ⟨_, rr_, by first | exact Kd.R_nil _ _ _ _ _ | exact Kd.N_nil _ _ _ _ _ | exact Kd.V_nil _ _ _ _ _ | exact Kd.Q_nil _ _ _ _ _ | exact Kd.S_nil _ _ _ _ _, bq1_⟩
 subst c3
 rw [if_pos rfl] at H
 obtain ⟨t963, A40, H⟩ := Option.bind_eq_some_iff.mp H
 have A4 := a0_ A40
 clear A40
 simp only [Option.some.injEq, Prod.mk.injEq] at H
 obtain ⟨rfl, rfl⟩ := H
 go_enter Tryz.func43, Tryz.ntmps43
 go_wp2_with (first | ((with_reducible refine gate_dst (N := 1) rfl ?_); refine boxS_ 1 #[.string a0_0, .int .i64 a0_1, .slice A0_2 l0_2.length c0_2] 42 (fun gb961 hg w5 hbox hb => ?_); have n0_ := a0_ (below_step bq0_ hb); have n1_ := a0_ (hbox); have n2_ := a0_ (gw_ hg : w.heap.size ≤ gb961); have n3_ := n2_; clear HB; have HB := n0_; have BK961 := n1_; have GW961 := n2_; have GE961 := n3_; clear n0_ n1_ n2_ n3_; clear hb hbox hg; obtain ⟨z6_0, z6_1, z6_2, q6_0, q6_1, q6_2⟩ := bk3_ BK961.out) | ((with_reducible refine gate_callee (f := 33) rfl ?_); refine goesL_ (some 5) rfl rfl Tryz.func33 (by kernel_rfl) rfl #[.agg #[.string a0_0, .int .i64 a0_1, .slice A0_2 l0_2.length c0_2]] rfl argsS_ ?_; (with_reducible refine (spec_GoodZone.calls k a0_0 a0_1 _ _ l0_2 true _ ?side1 ?side2 A2.out).mono ?_); (case side1 => exact kC_ HR0_2.out HB.out); (case side2 => exact HC0_2.out); rintro e w7 ⟨rfl, hb⟩; refine ⟨_, rfl, ?_⟩; replace BK961 := a0_ (bkB_ BK961 hb); replace HB := a0_ (below_step bq1_ hb); (try clear hb); (try clear hb2); (try clear hk); (try clear hi); obtain ⟨z8_0, z8_1, z8_2, q8_0, q8_1, q8_2⟩ := bk3_ BK961.out) | ((with_reducible refine gate_callee (f := 74) rfl ?_); refine goesL_ (some 9) rfl rfl Tryz.func74 (by kernel_rfl) rfl #[.slice A0_2 l0_2.length c0_2] rfl argsS_ ?_; (with_reducible refine (spec_l6Names.calls k _ _ l0_2 t963 _ ?side1 ?side2 A4.out).mono ?_); (case side1 => exact kC_ HR0_2.out HB.out); (case side2 => exact HC0_2.out); rintro e w9 ⟨v964, rfl, ho0, hb⟩; refine ⟨_, rfl, ?_⟩; have HO965 := a0_ (Kd.R_lower ho0 (below_size bq1_)); replace BK961 := a0_ (bkB_ BK961 hb); replace HB := a0_ (below_step bq1_ hb); (try clear hb); (try clear hb2); (try clear hk); (try clear hi); (try clear ho0)))
 go_ret2
 exact ⟨_, rr_, by (with_reducible repeat (first | apply Kd.R_alloc | apply Kd.R_drewN | apply Kd.R_drew)); exact HO965.out, bq1_⟩
end Go.Proofs.YtkpkfallgjdkmaaGreatDoor.P
