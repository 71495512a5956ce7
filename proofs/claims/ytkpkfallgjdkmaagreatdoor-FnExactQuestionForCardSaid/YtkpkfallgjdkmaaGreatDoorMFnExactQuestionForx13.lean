/- FnExactQuestionFor: part 14 of 27 of my texts for this claim, joined; the theorem stands in the last. Conditions: none beyond the statement's. -/
import Derived.Test.YtkpkfallgjdkmaaGreatDoorMFnExactQuestionForx10
import Derived.Test.YtkpkfallgjdkmaaGreatDoorMFnExactQuestionForx12
-- HAreR
/- impl.areRecords: its walk over slices.ContainsFunc and impl.GoodRecord. Conditions: the library's variables hold what the row lists. -/
namespace Go.Proofs.YtkpkfallgjdkmaaGreatDoor.P
open Go.RowKit Go.Proofs.YtkpkfallgjdkmaaGreatDoorW.PrintWords Go.Proofs.YtkpkfallgjdkmaaGreatDoorW.PrintLast Go.Proofs.YtkpkfallgjdkmaaGreatDoorW.PrintMore
set_option linter.unusedVariables false
set_option linter.unusedSimpArgs false
/-- A record, as a value. -/
def encR (x : S72) : Value := .agg #[.string x.f0, .int .i64 x.f1, .int .i64 x.f2, .string x.f3]
/-- What is asked of a predicate: where those ahead don't hold, it answers p, and what lay stays. -/
def PredR (g : Nat) (cb : Array Value) (p : S72 → Bool) (xs : List (S72)) (w : World) : Prop :=
  ∀ (j : Nat) (x : S72), xs[j]? = some x → (∀ (i : Nat) (y : S72), i < j → xs[i]? = some y → p y = false) → ∀ W, Below w.heap.size w W → Calls Tryz.prog g (#[encR x] ++ cb) W fun e W' => e = .returned (.bool (p x)) ∧ Below W.heap.size W W'
set_option maxHeartbeats 2000000 in
theorem index_rec (A : Option Addr) (c : Nat) (xs : List (S72)) (g : Nat) (cb : Array Value) (p : S72 → Bool) (w : World) (hr : Kd.C k72 w A xs.length xs)
    (eg : ∀ args w, (callFunc g args).run Tryz.prog w = .ok (.enter g args) w) (hp : PredR g cb p xs w) :
    Calls Tryz.prog 89 #[.slice A xs.length c, .func (.func g) #[] cb] w fun e w' => e = .returned (.int .i64 (idxP p xs 0)) ∧ Below w.heap.size w w' := by
  have hbig : xs.length ≤ 9223372036854775807 := hr.2.1
  go_enter Tryz.func89, Tryz.ntmps89
  go_wp2
  go_loopg [5, 8] xs.length (fun gg _ s8 wr => ∃ kk : Nat, kk ≤ xs.length ∧ xs.length - kk ≤ gg ∧ s8 = .int .i64 kk ∧ Aside0 (Below w.heap.size w wr) ∧ Aside0 (∀ j y, j < kk → xs[j]? = some y → p y = false))
  case atStart => exact ⟨0, Nat.zero_le _, by omega, rfl, ⟨Below.refl _ w⟩, ⟨fun j y hj => absurd hj (Nat.not_lt_zero _)⟩⟩
  case round =>
    obtain ⟨kk, hkk, hg, rfl, BW, AA⟩ := hrel
    by_cases hlt : kk < xs.length
    · have hltz : (kk : Int) < (xs.length : Int) := by omega
      obtain ⟨ad, e0, hx0, hx1, hx2, hx3⟩ := at_T72 hr (kk : Int) (by omega) hltz
      cases e0
      have l0 := (BW.out.cell (World.block_lt_of_cell? _ _ hx0)).trans hx0
      have l1 := (BW.out.cell (World.block_lt_of_cell? _ _ hx1)).trans hx1
      have l2 := (BW.out.cell (World.block_lt_of_cell? _ _ hx2)).trans hx2
      have l3 := (BW.out.cell (World.block_lt_of_cell? _ _ hx3)).trans hx3
      clear hx0 hx1 hx2 hx3
      simp only [Int.toNat_natCast] at l0 l1 l2 l3
      have hmem : xs[kk]? = some (rd_T72 xs kk) := by
        rw [List.getElem?_eq_getElem hlt]; simp [rd_T72, List.getElem?_eq_getElem hlt]
      have hcall := hp kk (rd_T72 xs kk) hmem AA.out wr BW.out
      clear hp
      generalize hy : rd_T72 xs kk = y at l0 l1 l2 l3 hcall hmem
      have B := Aside0.mk hmem
      clear hmem hy
      have hkn : ((kk : Int)).toNat = kk := by omega
      unfold encR at hcall
      cases hq : p y with
      | true =>
        rw [hq] at hcall
        go_wp2_with (go_at_fn g; refine hcall.mono ?_; rintro e w' ⟨rfl, hb'⟩)
        go_ret
        refine ⟨?_, below_then BW.out BW.out.size hb'⟩
        rw [idxP_hit p xs 0 kk y B.out hq AA.out]
        simp
      | false =>
        rw [hq] at hcall
        go_wp2_with (go_at_fn g; refine hcall.mono ?_; rintro e w' ⟨rfl, hb'⟩)
        go_roundg (xs.length - (kk + 1))
        case measure => omega
        case rel =>
          refine ⟨kk + 1, by omega, by omega, by go_num, ⟨below_then BW.out BW.out.size hb'⟩, ⟨fun j z hj hz => ?_⟩⟩
          by_cases e : j = kk
          · subst e
            rw [B.out] at hz
            cases hz
            exact hq
          · exact AA.out j z (by omega) hz
    · have hltz : ¬ (kk : Int) < (xs.length : Int) := by omega
      have hm : idxP p xs 0 = -1 := idxP_miss p xs 0 (fun y hy => by obtain ⟨j, hj, e⟩ := List.mem_iff_getElem.1 hy; exact AA.out j y (by omega) (by rw [List.getElem?_eq_getElem hj, e]))
      have HM := Aside0.mk hm
      clear hm
      go_wp2
      go_ret
      exact ⟨by rw [HM.out]; rfl, BW.out⟩
theorem contains_rec (A : Option Addr) (c : Nat) (xs : List (S72)) (g : Nat) (cb : Array Value) (p : S72 → Bool) (w : World) (hr : Kd.C k72 w A xs.length xs)
    (eg : ∀ args w, (callFunc g args).run Tryz.prog w = .ok (.enter g args) w) (hp : PredR g cb p xs w) :
    Calls Tryz.prog 59 #[.slice A xs.length c, .func (.func g) #[] cb] w fun e w' => e = .returned (.bool (xs.any p)) ∧ Below w.heap.size w w' := by
  rw [← idxP_any p xs 0 (by omega)]
  go_enter Tryz.func59, Tryz.ntmps59
  go_wp2_with (go_at_call 89; refine (index_rec A c xs g cb p _ hr eg hp).mono ?_; rintro e w' ⟨rfl, hb'⟩)
  go_ret
  exact ⟨rfl, hb'⟩
/-- All records are good; those behind the first bad one aren't looked at. -/
def impl_areRecords.f (k : Nat) : List (S72) → Option Bool
  | [] => some true
  | x :: xs => (impl_GoodRecord.f k x.f0 x.f1 x.f2 x.f3).bind fun g => (if g = true then impl_areRecords.f k xs else some false)
theorem impl_areRecords.mono : ∀ (a0 : List (S72)) (k : Nat), LeO (impl_areRecords.f k a0) (impl_areRecords.f (k + 1) a0)
  | [], k => LeO.refl _
  | x :: xs, k => by
    have ih := impl_areRecords.mono xs k
    unfold impl_areRecords.f
    exact LeO.bind (impl_GoodRecord.mono _ _ _ _ _) fun g => LeO.ite ih (LeO.refl _)
/-- That a record is not good. -/
def badP (k : Nat) (x : S72) : Bool := !((impl_GoodRecord.f k x.f0 x.f1 x.f2 x.f3).getD false)
theorem are_at (k : Nat) : ∀ (xs : List (S72)) (r : Bool), impl_areRecords.f k xs = some r → ∀ (j : Nat) (x : S72), xs[j]? = some x → (∀ (i : Nat) (y : S72), i < j → xs[i]? = some y → badP k y = false) → impl_GoodRecord.f k x.f0 x.f1 x.f2 x.f3 = some (!badP k x)
  | [], r, h, j, x, hj, hb => by simp at hj
  | z :: xs, r, h, j, x, hj, hb => by
    unfold impl_areRecords.f at h
    obtain ⟨g, hg, h⟩ := Option.bind_eq_some_iff.mp h
    cases j with
    | zero =>
      obtain rfl : z = x := by simpa using hj
      unfold badP
      rw [hg, Option.getD_some, Bool.not_not]
    | succ j =>
      have h0 := hb 0 z (by omega) (by simp)
      unfold badP at h0
      rw [hg, Option.getD_some] at h0
      have hgt : g = true := by cases g with
        | true => rfl
        | false => cases h0
      rw [if_pos hgt] at h
      exact are_at k xs r h j x (by simpa using hj) fun i y hi hy => hb (i + 1) y (by omega) (by simpa using hy)
theorem are_any (k : Nat) : ∀ (xs : List (S72)) (r : Bool), impl_areRecords.f k xs = some r → xs.any (badP k) = !r
  | [], r, h => by
    obtain rfl := Option.some.inj h
    rfl
  | z :: xs, r, h => by
    unfold impl_areRecords.f at h
    obtain ⟨g, hg, h⟩ := Option.bind_eq_some_iff.mp h
    rw [List.any_cons]
    unfold badP
    rw [hg, Option.getD_some]
    cases g with
    | true =>
      rw [if_pos rfl] at h
      exact are_any k xs r h
    | false =>
      rw [if_neg (by decide)] at h
      obtain rfl := Option.some.inj h
      rfl
set_option maxHeartbeats 4000000 in
theorem impl_areRecords.calls (k : Nat) (A0 : Option Addr) (c0 : Nat) (l0 : List (S72)) (r : Bool) (w : World) (hr0 : Kd.C k72 w A0 l0.length l0) (hc0 : l0.length ≤ c0) (h : impl_areRecords.f k l0 = some r)
    (hv_ : Vars w := by first | assumption | (refine Vars.below (Aside0.out (by assumption)) ?_; repeat (first | (with_reducible first | exact Below.refl _ _ | exact Aside0.out (by assumption) | apply below_alloc | apply pw_below_drewN | apply below_drew1) | exact Aside0.out (by assumption)))) :
    Calls Tryz.prog 80 #[.slice A0 l0.length c0] w fun e w' => e = .returned (.bool r) ∧ Below w.heap.size w w' := by
  have eg : ∀ args w, (callFunc 105 args).run Tryz.prog w = .ok (.enter 105 args) w := enters_of Tryz.func105 (by kernel_rfl) rfl
  have cc := contains_rec A0 c0 l0 105 #[] (badP k) w hr0 eg (fun j x hj hb W hW =>
    impl_areRecords_1.calls k x.f0 x.f1 x.f2 x.f3 (badP k x) W (by unfold impl_areRecords_1.f; rw [are_at k l0 r h j x hj hb, Option.bind_some, Bool.not_not]) (Vars.below hv_ hW))
  rw [are_any k l0 r h] at cc
  clear h hv_
  go_enter Tryz.func80, Tryz.ntmps80
  go_wp2_with (go_at_call 59; refine cc.mono ?_; rintro e w1 ⟨rfl, hb⟩)
  go_ret
  exact ⟨by simp, hb⟩
end Go.Proofs.YtkpkfallgjdkmaaGreatDoor.P
