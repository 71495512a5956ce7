/- FnExactGoodMessage: part 15 of 23 of my texts for this claim, joined; the theorem stands in the last. Conditions: none beyond the statement's. -/
import Derived.Test.YtecmicedacppbaaGreatDoorMFnExactGoodMessagex2
import Derived.Test.YtecmicedacppbaaGreatDoorMFnExactGoodMessagex13
import Derived.Test.YtecmicedacppbaaGreatDoorMFnExactGoodMessagex12
import Derived.Test.YtecmicedacppbaaGreatDoorMFnExactGoodMessagex11
-- F57
-- By my own call of the kit's print (wip/tools/pp.py).
namespace Go.Proofs.YtecmicedacppbaaGreatDoor.P
open Go.RowKit Go.Proofs.YtecmicedacppbaaGreatDoorW.PrintWords Go.Proofs.YtecmicedacppbaaGreatDoorW.PrintLast Go.Proofs.YtecmicedacppbaaGreatDoorW.PrintMore
attribute [local go_sem] max2_int min2_int max_two min_two max_three min_three max_four min_four
set_option linter.unusedVariables false
set_option linter.unusedSimpArgs false

/-! ### impl_areRecords_1: function 57 -/
def impl_areRecords_1.f (k : Nat) (a0_0 : ByteArray) (a0_1 : Int) (a0_2 : Int) (a0_3 : ByteArray) : Option (Bool) := (impl_GoodRecord.f k a0_0 a0_1 a0_2 a0_3).bind fun t528 => (some (!t528))
theorem impl_areRecords_1.mono : ∀ a0 a1 a2 a3 k, LeO (impl_areRecords_1.f k a0 a1 a2 a3) (impl_areRecords_1.f (k + 1) a0 a1 a2 a3) := by
  intro a0 a1 a2 a3 k
  unfold impl_areRecords_1.f
  repeat' first
      | (with_reducible exact impl_GoodRecord.mono _ _ _ _ _)
      | (with_reducible exact LeO.refl _)
      | (with_reducible exact LeO.none _)
      | (with_reducible refine LeO.ite ?_ ?_)
      | (with_reducible refine LeO.bind ?_ (fun _ => ?_))
      | exact impl_GoodRecord.mono _ _ _ _ _
      | exact LeO.none _
      | refine LeO.ite ?_ ?_
      | refine LeO.bind ?_ (fun _ => ?_)
set_option maxHeartbeats 8000000 in
set_option maxRecDepth 100000 in
theorem impl_areRecords_1.calls (k : Nat) (a0_0 : ByteArray) (a0_1 : Int) (a0_2 : Int) (a0_3 : ByteArray) (r : Bool) (w : World) (h : impl_areRecords_1.f k a0_0 a0_1 a0_2 a0_3 = some r) (hv_ : Vars w := by first | assumption | (refine Vars.below (Aside0.out (by assumption)) ?_; repeat (first | (with_reducible first | exact Below.refl _ _ | exact Aside0.out (by assumption) | apply below_alloc | apply pw_below_drewN | apply below_drew1) | exact Aside0.out (by assumption)))) :
    Calls Tryz.prog 57 #[.agg #[.string a0_0, .int .i64 a0_1, .int .i64 a0_2, .string a0_3]] w fun e w' => e = .returned (.bool r) ∧ Below w.heap.size w w' := by
  have HV_ := Aside0.mk hv_
  clear hv_
  have hu27 := Tryz.underlying27
  have HB := Aside0.mk (Below.refl w.heap.size w)
  have H : ((impl_GoodRecord.f k a0_0 a0_1 a0_2 a0_3).bind fun t528 => (some (!t528))) = some r := h
  clear h
  replace H := Option.bind_eq_some_iff.mp H
  obtain ⟨t528, A20, H⟩ := H
  replace H : (some (!t528)) = some r := H
  have A2 := Aside0.mk A20
  clear A20
  obtain rfl := Option.some.inj H
  go_enter Tryz.func57, Tryz.ntmps57
  go_wp2_with (first | ((with_reducible refine gate_dst (N := 1) rfl ?_); refine box_event ?hg (N := 1) ?hd (cs := #[.string a0_0, .int .i64 a0_1, .int .i64 a0_2, .string a0_3]) (t := 27) ?hr ?_; (case hd => rfl); (case hg => rfl); (case hr => first | (go_simp; done) | (go_simp; rfl)); intro gb527 hg w3 hbox hb; have n0_ := Aside0.mk (below_step (by repeat (first | (with_reducible first | exact HB.out | apply below_alloc | apply pw_below_drewN | apply below_drew1) | exact HB.out)) hb); have n1_ := Aside0.mk (hbox); have n2_ := Aside0.mk ((by rw [hg]; exact (below_size (by repeat (first | (with_reducible first | exact HB.out | apply below_alloc | apply pw_below_drewN | apply below_drew1) | exact HB.out))) : w.heap.size ≤ gb527)); have n3_ := Aside0.mk ((by rw [hg]; exact (below_size (by repeat (first | (with_reducible first | exact HB.out | apply below_alloc | apply pw_below_drewN | apply below_drew1) | exact HB.out))) : w.heap.size ≤ gb527)); clear HB; have HB := n0_; have BK527 := n1_; have GW527 := n2_; have GE527 := n3_; clear n0_ n1_ n2_ n3_; clear hb hbox hg; have hcz4_0 : w3.cell? ⟨gb527, 0, none⟩ = some (.string a0_0) := (blk_cell BK527.out 0).trans rfl; have hcz4_1 : w3.cell? ⟨gb527, 1, none⟩ = some (.int .i64 a0_1) := (blk_cell BK527.out 1).trans rfl; have hcz4_2 : w3.cell? ⟨gb527, 2, none⟩ = some (.int .i64 a0_2) := (blk_cell BK527.out 2).trans rfl; have hcz4_3 : w3.cell? ⟨gb527, 3, none⟩ = some (.string a0_3) := (blk_cell BK527.out 3).trans rfl; have hfz4_0 := blk_frozen BK527.out 0; have hfz4_1 := blk_frozen BK527.out 1; have hfz4_2 := blk_frozen BK527.out 2; have hfz4_3 := blk_frozen BK527.out 3) | ((with_reducible refine gate_callee (f := 19) rfl ?_); refine goesL_ (some 4) rfl rfl Tryz.func19 (by kernel_rfl) rfl #[.agg #[.string a0_0, .int .i64 a0_1, .int .i64 a0_2, .string a0_3]] rfl (by (try simp only [List.map_toArray, List.map_cons, List.map_nil]); first | done | rfl | (simp only [List.length_drop, List.length_take]; rfl)) ?_; (with_reducible refine (impl_GoodRecord.calls k a0_0 a0_1 a0_2 a0_3 t528 _ A2.out).mono ?_); rintro e w5 ⟨rfl, hb⟩; refine ⟨_, rfl, ?_⟩; have n0_ := Aside0.mk (blk_below (g := gb527) (o := .cells #[.string a0_0, .int .i64 a0_1, .int .i64 a0_2, .string a0_3] 27 (0, 0)) (by (with_reducible repeat (first | refine blk_drewN ?_ _ | refine blk_drew ?_ | refine blk_alloc ?_ _)); exact BK527.out) hb); have n1_ := Aside0.mk (below_step (by repeat (first | (with_reducible first | exact HB.out | apply below_alloc | apply pw_below_drewN | apply below_drew1 | refine below_set ?_ GE527.out) | exact HB.out)) hb); clear BK527; clear HB; have BK527 := n0_; have HB := n1_; clear n0_ n1_; (try clear hb); (try clear hb2); (try clear hk); (try clear hi)))
  go_ret
  exact ⟨by first | rfl | (simp [errW_none, errW_some] <;> rfl) | (simp [*, errW_none, errW_some] <;> rfl), by repeat (first | (with_reducible first | exact HB.out | apply below_alloc | apply pw_below_drewN | apply below_drew1 | refine below_set ?_ GE527.out) | exact HB.out)⟩

end Go.Proofs.YtecmicedacppbaaGreatDoor.P

-- HAreR
/- impl.areRecords: its walk over slices.ContainsFunc and impl.GoodRecord. Conditions: the library's variables hold what the row lists. -/
namespace Go.Proofs.YtecmicedacppbaaGreatDoor.P
open Go.RowKit Go.Proofs.YtecmicedacppbaaGreatDoorW.PrintWords Go.Proofs.YtecmicedacppbaaGreatDoorW.PrintLast Go.Proofs.YtecmicedacppbaaGreatDoorW.PrintMore
set_option linter.unusedVariables false
set_option linter.unusedSimpArgs false
/-- A record, as a value. -/
def encR (x : S27) : Value := .agg #[.string x.f0, .int .i64 x.f1, .int .i64 x.f2, .string x.f3]
/-- What is asked of a predicate: where those ahead don't hold, it answers p, and what lay stays. -/
def PredR (g : Nat) (cb : Array Value) (p : S27 → Bool) (xs : List (S27)) (w : World) : Prop :=
  ∀ (j : Nat) (x : S27), xs[j]? = some x → (∀ (i : Nat) (y : S27), i < j → xs[i]? = some y → p y = false) → ∀ W, Below w.heap.size w W → Calls Tryz.prog g (#[encR x] ++ cb) W fun e W' => e = .returned (.bool (p x)) ∧ Below W.heap.size W W'
set_option maxHeartbeats 2000000 in
theorem index_rec (A : Option Addr) (c : Nat) (xs : List (S27)) (g : Nat) (cb : Array Value) (p : S27 → Bool) (w : World) (hr : Kd.C k27 w A xs.length xs)
    (eg : ∀ args w, (callFunc g args).run Tryz.prog w = .ok (.enter g args) w) (hp : PredR g cb p xs w) :
    Calls Tryz.prog 85 #[.slice A xs.length c, .func (.func g) #[] cb] w fun e w' => e = .returned (.int .i64 (idxP p xs 0)) ∧ Below w.heap.size w w' := by
  have hbig : xs.length ≤ 9223372036854775807 := hr.2.1
  go_enter Tryz.func85, Tryz.ntmps85
  go_wp2
  go_loopg [5, 8] xs.length (fun gg _ s8 wr => ∃ kk : Nat, kk ≤ xs.length ∧ xs.length - kk ≤ gg ∧ s8 = .int .i64 kk ∧ Aside0 (Below w.heap.size w wr) ∧ Aside0 (∀ j y, j < kk → xs[j]? = some y → p y = false))
  case atStart => exact ⟨0, Nat.zero_le _, by omega, rfl, ⟨Below.refl _ w⟩, ⟨fun j y hj => absurd hj (Nat.not_lt_zero _)⟩⟩
  case round =>
    obtain ⟨kk, hkk, hg, rfl, BW, AA⟩ := hrel
    by_cases hlt : kk < xs.length
    · have hltz : (kk : Int) < (xs.length : Int) := by omega
      obtain ⟨ad, e0, hx0, hx1, hx2, hx3⟩ := at_T27 hr (kk : Int) (by omega) hltz
      cases e0
      have l0 := (BW.out.cell (World.block_lt_of_cell? _ _ hx0)).trans hx0
      have l1 := (BW.out.cell (World.block_lt_of_cell? _ _ hx1)).trans hx1
      have l2 := (BW.out.cell (World.block_lt_of_cell? _ _ hx2)).trans hx2
      have l3 := (BW.out.cell (World.block_lt_of_cell? _ _ hx3)).trans hx3
      clear hx0 hx1 hx2 hx3
      simp only [Int.toNat_natCast] at l0 l1 l2 l3
      have hmem : xs[kk]? = some (rd_T27 xs kk) := by
        rw [List.getElem?_eq_getElem hlt]; simp [rd_T27, List.getElem?_eq_getElem hlt]
      have hcall := hp kk (rd_T27 xs kk) hmem AA.out wr BW.out
      clear hp
      generalize hy : rd_T27 xs kk = y at l0 l1 l2 l3 hcall hmem
      have B := Aside0.mk hmem
      clear hmem hy
      have hkn : ((kk : Int)).toNat = kk := by omega
      unfold encR at hcall
      cases hq : p y with
      | true =>
        rw [hq] at hcall
        go_wp2_with (go_at_fn g; refine hcall.mono ?_; rintro e w' ⟨rfl, hb'⟩)
        go_ret
        refine ⟨?_, below_then BW.out BW.out.size hb'⟩
        rw [idxP_hit p xs 0 kk y B.out hq AA.out]
        simp
      | false =>
        rw [hq] at hcall
        go_wp2_with (go_at_fn g; refine hcall.mono ?_; rintro e w' ⟨rfl, hb'⟩)
        go_roundg (xs.length - (kk + 1))
        case measure => omega
        case rel =>
          refine ⟨kk + 1, by omega, by omega, by go_num, ⟨below_then BW.out BW.out.size hb'⟩, ⟨fun j z hj hz => ?_⟩⟩
          by_cases e : j = kk
          · subst e
            rw [B.out] at hz
            cases hz
            exact hq
          · exact AA.out j z (by omega) hz
    · have hltz : ¬ (kk : Int) < (xs.length : Int) := by omega
      have hm : idxP p xs 0 = -1 := idxP_miss p xs 0 (fun y hy => by obtain ⟨j, hj, e⟩ := List.mem_iff_getElem.1 hy; exact AA.out j y (by omega) (by rw [List.getElem?_eq_getElem hj, e]))
      have HM := Aside0.mk hm
      clear hm
      go_wp2
      go_ret
      exact ⟨by rw [HM.out]; rfl, BW.out⟩
theorem contains_rec (A : Option Addr) (c : Nat) (xs : List (S27)) (g : Nat) (cb : Array Value) (p : S27 → Bool) (w : World) (hr : Kd.C k27 w A xs.length xs)
    (eg : ∀ args w, (callFunc g args).run Tryz.prog w = .ok (.enter g args) w) (hp : PredR g cb p xs w) :
    Calls Tryz.prog 56 #[.slice A xs.length c, .func (.func g) #[] cb] w fun e w' => e = .returned (.bool (xs.any p)) ∧ Below w.heap.size w w' := by
  rw [← idxP_any p xs 0 (by omega)]
  go_enter Tryz.func56, Tryz.ntmps56
  go_wp2_with (go_at_call 85; refine (index_rec A c xs g cb p _ hr eg hp).mono ?_; rintro e w' ⟨rfl, hb'⟩)
  go_ret
  exact ⟨rfl, hb'⟩
/-- All records are good; those behind the first bad one aren't looked at. -/
def impl_areRecords.f (k : Nat) : List (S27) → Option Bool
  | [] => some true
  | x :: xs => (impl_GoodRecord.f k x.f0 x.f1 x.f2 x.f3).bind fun g => (if g = true then impl_areRecords.f k xs else some false)
theorem impl_areRecords.mono : ∀ (a0 : List (S27)) (k : Nat), LeO (impl_areRecords.f k a0) (impl_areRecords.f (k + 1) a0)
  | [], k => LeO.refl _
  | x :: xs, k => by
    have ih := impl_areRecords.mono xs k
    unfold impl_areRecords.f
    exact LeO.bind (impl_GoodRecord.mono _ _ _ _ _) fun g => LeO.ite ih (LeO.refl _)
/-- That a record is not good. -/
def badP (k : Nat) (x : S27) : Bool := !((impl_GoodRecord.f k x.f0 x.f1 x.f2 x.f3).getD false)
theorem are_at (k : Nat) : ∀ (xs : List (S27)) (r : Bool), impl_areRecords.f k xs = some r → ∀ (j : Nat) (x : S27), xs[j]? = some x → (∀ (i : Nat) (y : S27), i < j → xs[i]? = some y → badP k y = false) → impl_GoodRecord.f k x.f0 x.f1 x.f2 x.f3 = some (!badP k x)
  | [], r, h, j, x, hj, hb => by simp at hj
  | z :: xs, r, h, j, x, hj, hb => by
    unfold impl_areRecords.f at h
    obtain ⟨g, hg, h⟩ := Option.bind_eq_some_iff.mp h
    cases j with
    | zero =>
      obtain rfl : z = x := by simpa using hj
      unfold badP
      rw [hg, Option.getD_some, Bool.not_not]
    | succ j =>
      have h0 := hb 0 z (by omega) (by simp)
      unfold badP at h0
      rw [hg, Option.getD_some] at h0
      have hgt : g = true := by cases g with
        | true => rfl
        | false => cases h0
      rw [if_pos hgt] at h
      exact are_at k xs r h j x (by simpa using hj) fun i y hi hy => hb (i + 1) y (by omega) (by simpa using hy)
theorem are_any (k : Nat) : ∀ (xs : List (S27)) (r : Bool), impl_areRecords.f k xs = some r → xs.any (badP k) = !r
  | [], r, h => by
    obtain rfl := Option.some.inj h
    rfl
  | z :: xs, r, h => by
    unfold impl_areRecords.f at h
    obtain ⟨g, hg, h⟩ := Option.bind_eq_some_iff.mp h
    rw [List.any_cons]
    unfold badP
    rw [hg, Option.getD_some]
    cases g with
    | true =>
      rw [if_pos rfl] at h
      exact are_any k xs r h
    | false =>
      rw [if_neg (by decide)] at h
      obtain rfl := Option.some.inj h
      rfl
set_option maxHeartbeats 4000000 in
theorem impl_areRecords.calls (k : Nat) (A0 : Option Addr) (c0 : Nat) (l0 : List (S27)) (r : Bool) (w : World) (hr0 : Kd.C k27 w A0 l0.length l0) (hc0 : l0.length ≤ c0) (h : impl_areRecords.f k l0 = some r)
    (hv_ : Vars w := by first | assumption | (refine Vars.below (Aside0.out (by assumption)) ?_; repeat (first | (with_reducible first | exact Below.refl _ _ | exact Aside0.out (by assumption) | apply below_alloc | apply pw_below_drewN | apply below_drew1) | exact Aside0.out (by assumption)))) :
    Calls Tryz.prog 32 #[.slice A0 l0.length c0] w fun e w' => e = .returned (.bool r) ∧ Below w.heap.size w w' := by
  have eg : ∀ args w, (callFunc 57 args).run Tryz.prog w = .ok (.enter 57 args) w := enters_of Tryz.func57 (by kernel_rfl) rfl
  have cc := contains_rec A0 c0 l0 57 #[] (badP k) w hr0 eg (fun j x hj hb W hW =>
    impl_areRecords_1.calls k x.f0 x.f1 x.f2 x.f3 (badP k x) W (by unfold impl_areRecords_1.f; rw [are_at k l0 r h j x hj hb, Option.bind_some, Bool.not_not]) (Vars.below hv_ hW))
  rw [are_any k l0 r h] at cc
  clear h hv_
  go_enter Tryz.func32, Tryz.ntmps32
  go_wp2_with (go_at_call 56; refine cc.mono ?_; rintro e w1 ⟨rfl, hb⟩)
  go_ret
  exact ⟨by simp, hb⟩
end Go.Proofs.YtecmicedacppbaaGreatDoor.P
