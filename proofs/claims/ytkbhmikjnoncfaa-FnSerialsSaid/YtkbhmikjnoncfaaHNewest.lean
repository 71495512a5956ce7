/- The walk of impl.NewestOf and of its two closures: what it returns, for every slice of integers. Conditions: none beyond the types. -/
import Derived.Test.YtkbhmikjnoncfaaHIdx
import Derived.Test.YtkbhmikjnoncfaaF19
import Derived.Test.YtkbhmikjnoncfaaF35
namespace Go.Proofs.Ytkbhmikjnoncfaa.P
open Go.RowKit Go.Proofs.YtkbhmikjnoncfaaW.PrintWords Go.Proofs.YtkbhmikjnoncfaaW.PrintLast Go.Proofs.YtkbhmikjnoncfaaW.PrintMore
set_option linter.unusedVariables false

def isSer (a : Int) : Bool := decide (0 ≤ a ∧ a ≤ 4294967295)
theorem isSerial_eq (a : Int) : impl_isSerial.f a = some (isSer a) := by
  unfold impl_isSerial.f impl_within.f isSer
  by_cases h : a ≥ 0
  · simp [h]
  · have : ¬ 0 ≤ a := by omega
    simp [this]
def slP (a b : Int) : Bool × Bool := (impl_SerialLess.f a b).getD (false, false)
theorem serialLess_eq (a b : Int) : impl_SerialLess.f a b = some (slP a b) := by
  have h : ∃ r, impl_SerialLess.f a b = some r := by
    unfold impl_SerialLess.f impl_StepsBetween.f
    rw [isSerial_eq, isSerial_eq]
    simp only [Option.bind_some]
    unfold impl_within.f
    repeat' split
    all_goals first | exact ⟨_, rfl⟩ | (simp only [Option.bind_some]; repeat' split) | skip
    all_goals first | exact ⟨_, rfl⟩ | (simp; done)
  obtain ⟨r, h⟩ := h
  simp [slP, h]
/-- The second closure: a is older than b, or that can't be told. -/
def nwP (a b : Int) : Bool := (slP a b).1 || !(slP a b).2

theorem newest1 (x : Int) (W : World) : Calls Try.prog 42 #[.int .i64 x] W fun e W' => e = .returned (.bool (!isSer x)) ∧ Below W.heap.size W W' := by
  have h := Aside0.mk (isSerial_eq x)
  go_enter Try.func42, Try.ntmps42
  go_wp2_with (go_at_call 35; refine (impl_isSerial.calls x _ _ h.out).mono ?_; rintro e w' ⟨rfl, ⟨nd, rfl⟩⟩)
  go_ret
  exact ⟨rfl, pw_below_drewN (Below.refl _ _) _⟩

theorem newest2 (a x : Int) (B : Nat) (W : World) (hc : W.cell? ⟨B, 0, none⟩ = some (.int .i64 a)) :
    Calls Try.prog 43 #[.int .i64 x, .pointer (some ⟨B, 0, none⟩)] W fun e W' => e = .returned (.bool (nwP a x)) ∧ Below W.heap.size W W' := by
  have h := Aside0.mk (serialLess_eq a x)
  unfold nwP
  generalize slP a x = p at h ⊢
  obtain ⟨p1, p2⟩ := p
  cases p1
  all_goals
    go_enter Try.func43, Try.ntmps43
    go_wp2_with (go_at_call 19; refine (impl_SerialLess.calls a x _ _ _ h.out).mono ?_; rintro e w' ⟨rfl, ⟨nd, rfl⟩⟩)
    go_ret
    exact ⟨rfl, pw_below_drewN (Below.refl _ _) _⟩

def impl_NewestOf.g (l : List Int) : Int × Bool :=
  if 1 ≤ l.length ∧ l.length ≤ 20 then
    if l.any (fun x => !isSer x) then (0, false)
    else match l.find? (fun a => !l.any (nwP a)) with
      | some a => (a, true)
      | none => (0, false)
  else (0, false)
def impl_NewestOf.f (l : List Int) : Option (Int × Bool) := some (impl_NewestOf.g l)

set_option maxHeartbeats 4000000 in
theorem impl_NewestOf.calls (A0 : Option Addr) (c0 : Nat) (l0 : List Int) (r1 : Int) (r2 : Bool) (w : World) (hr0 : Kd.C (Kd.int .i64) w A0 l0.length l0) (hc0 : l0.length ≤ c0) (h : impl_NewestOf.f l0 = some (r1, r2)) :
    Calls Try.prog 26 #[.slice A0 l0.length c0] w fun e w' => e = .returned (.tuple #[.int .i64 r1, .bool r2]) ∧ Below w.heap.size w w' := by
  have hbig : l0.length ≤ 9223372036854775807 := hr0.2.1
  have HG : Aside0 (impl_NewestOf.g l0 = (r1, r2)) := ⟨Option.some.inj h⟩
  clear h
  have hw : impl_within.f (l0.length : Int) 1 20 = some (decide (1 ≤ l0.length ∧ l0.length ≤ 20)) := by
    unfold impl_within.f
    by_cases h1 : (l0.length : Int) ≥ 1
    · rw [if_pos h1]; congr 1; rw [decide_eq_decide]; omega
    · rw [if_neg h1]; congr 1; rw [eq_comm, decide_eq_false_iff_not]; omega
  have e42 : ∀ args w, (callFunc 42 args).run Try.prog w = .ok (.enter 42 args) w := enters_of Try.func42 (by kernel_rfl) rfl
  have e43 : ∀ args w, (callFunc 43 args).run Try.prog w = .ok (.enter 43 args) w := enters_of Try.func43 (by kernel_rfl) rfl
  by_cases hlen : 1 ≤ l0.length ∧ l0.length ≤ 20
  · rw [decide_eq_true hlen] at hw
    have HW := Aside0.mk hw
    clear hw
    have c1 := fun W hr => contains_int A0 c0 l0 42 #[] (fun x => !isSer x) W hr e42 (fun x _ W' _ => newest1 x W')
    by_cases hany : l0.any (fun x => !isSer x) = true
    · have hg : impl_NewestOf.g l0 = (0, false) := by unfold impl_NewestOf.g; rw [if_pos hlen, if_pos hany]
      obtain ⟨rfl, rfl⟩ : r1 = 0 ∧ r2 = false := by have := hg.symm.trans HG.out; simpa [eq_comm] using this
      rw [hany] at c1
      clear HG hlen
      go_enter Try.func26, Try.ntmps26
      go_wp2_with (first | (go_at_call 36; refine (impl_within.calls _ 1 20 _ _ HW.out).mono ?_; rintro e w' ⟨rfl, ⟨nd, rfl⟩⟩) | (go_at_call 41; refine (c1 _ (Kd.C_drewN hr0 _)).mono ?_; rintro e w' ⟨rfl, hb⟩))
      go_ret2
      exact ⟨rfl, below_then (pw_below_drewN (Below.refl _ _) _) (Nat.le_refl _) hb⟩
    · have hg : impl_NewestOf.g l0 = match l0.find? (fun a => !l0.any (nwP a)) with | some a => (a, true) | none => (0, false) := by unfold impl_NewestOf.g; rw [if_pos hlen, if_neg hany]
      have hg2 := Aside0.mk (hg.symm.trans HG.out)
      rw [Bool.eq_false_iff.mpr hany] at c1
      have c2 := fun a W hr B hB hc => contains_int A0 c0 l0 43 #[.pointer (some ⟨B, 0, none⟩)] (nwP a) W hr e43 (fun x _ W' hW => newest2 a x B W' ((hW.cell (p := ⟨B, 0, none⟩) hB).trans hc))
      clear HG hlen hg hany
      go_enter Try.func26, Try.ntmps26
      go_wp2_with (first | (go_at_call 36; refine (impl_within.calls _ 1 20 _ _ HW.out).mono ?_; rintro e w' ⟨rfl, ⟨nd, rfl⟩⟩) | (go_at_call 41; refine (c1 _ (Kd.C_drewN hr0 _)).mono ?_; rintro e w1 ⟨rfl, hb⟩))
      have HB := Aside0.mk (below_then (pw_below_drewN (Below.refl w.heap.size w) nd) (Nat.le_refl _) hb)
      clear hb
      go_loopg [16] l0.length (fun gg s16 wr => ∃ kk : Nat, kk ≤ l0.length ∧ l0.length - kk ≤ gg ∧ s16 = .int .i64 kk ∧ Aside0 (Below w.heap.size w wr) ∧ Aside0 (∀ j y, j < kk → l0[j]? = some y → (!l0.any (nwP y)) = false))
      case atStart => exact ⟨0, Nat.zero_le _, by omega, rfl, HB, ⟨fun j y hj => absurd hj (Nat.not_lt_zero _)⟩⟩
      case round =>
        clear HB
        obtain ⟨kk, hkk, hg, rfl, BW, AA⟩ := hrel
        by_cases hlt : kk < l0.length
        · have hltz : (kk : Int) < (l0.length : Int) := by omega
          obtain ⟨ad, e0, hx⟩ := Kd.at_int hr0 (kk : Int) (by omega) hltz
          cases e0
          have l2 := (BW.out.cell (World.block_lt_of_cell? _ _ hx)).trans hx
          clear hx
          rw [Int.toNat_natCast] at l2
          have hmem : l0[kk]? = some (rd l0 kk) := by
            rw [List.getElem?_eq_getElem hlt]; simp [rd, List.getElem?_eq_getElem hlt]
          generalize hy : rd l0 kk = y at l2 hmem
          have B := Aside0.mk hmem
          clear hmem hy
          have hcall := c2 y (wr.alloc (.cells #[.int .i64 y] 3)) (Kd.C_below hr0 (below_then BW.out BW.out.size (below_alloc (Below.refl _ _) _))) wr.heap.size (by simp) (by simp)
          cases hq : l0.any (nwP y) with
          | false =>
            rw [hq] at hcall
            have hf : l0.find? (fun a => !l0.any (nwP a)) = some y := by
              rw [List.find?_eq_some_iff_append]
              refine ⟨by rw [hq]; rfl, l0.take kk, l0.drop (kk + 1), ?_, fun a ha => ?_⟩
              · have hl := List.getElem?_eq_some_iff.1 B.out
                obtain ⟨h1, h2⟩ := hl
                rw [← h2, List.getElem_cons_drop, List.take_append_drop]
              · obtain ⟨j, hj, e⟩ := List.mem_take_iff_getElem.1 ha
                have := AA.out j a (by omega) (by rw [List.getElem?_eq_getElem (by omega), e])
                rw [this]; rfl
            have hr := hg2.out
            rw [hf] at hr
            obtain ⟨rfl, rfl⟩ := Prod.mk.inj hr
            clear hr hf hg2
            go_wp2_with (go_at_call 41; refine hcall.mono ?_; rintro e w' ⟨rfl, hb'⟩; have hcw := (hb'.cell (p := ⟨wr.heap.size, 0, none⟩) (by simp)).trans (show (wr.alloc (.cells #[.int .i64 y] 3)).cell? ⟨wr.heap.size, 0, none⟩ = some (.int .i64 y) by simp))
            go_ret2
            exact ⟨rfl, below_then (below_then BW.out BW.out.size (below_alloc (Below.refl _ _) _)) (by have := BW.out.size; simp; omega) hb'⟩
          | true =>
            rw [hq] at hcall
            go_wp2_with (go_at_call 41; refine hcall.mono ?_; rintro e w' ⟨rfl, hb'⟩)
            go_roundg (l0.length - (kk + 1))
            case measure => omega
            case rel =>
              refine ⟨kk + 1, by omega, by omega, by go_num, ⟨below_then (below_then BW.out BW.out.size (below_alloc (Below.refl _ _) _)) (by have := BW.out.size; simp; omega) hb'⟩, ⟨fun j z hj hz => ?_⟩⟩
              by_cases e : j = kk
              · subst e
                rw [B.out] at hz
                cases hz
                rw [hq]; rfl
              · exact AA.out j z (by omega) hz
        · have hltz : ¬ (kk : Int) < (l0.length : Int) := by omega
          have hf : l0.find? (fun a => !l0.any (nwP a)) = none := by
            rw [List.find?_eq_none]
            intro a ha
            obtain ⟨j, hj, e⟩ := List.mem_iff_getElem.1 ha
            rw [AA.out j a (by omega) (by rw [List.getElem?_eq_getElem hj, e])]
            decide
          have hr := hg2.out
          rw [hf] at hr
          obtain ⟨rfl, rfl⟩ := Prod.mk.inj hr
          clear hr hf hg2
          go_wp2
          go_ret2
          exact ⟨rfl, BW.out⟩
  · have hg : impl_NewestOf.g l0 = (0, false) := by unfold impl_NewestOf.g; rw [if_neg hlen]
    obtain ⟨rfl, rfl⟩ : r1 = 0 ∧ r2 = false := by have := hg.symm.trans HG.out; simpa [eq_comm] using this
    rw [decide_eq_false hlen] at hw
    have HW := Aside0.mk hw
    clear hw HG hlen
    go_enter Try.func26, Try.ntmps26
    go_wp2_with (go_at_call 36; refine (impl_within.calls _ 1 20 _ _ HW.out).mono ?_; rintro e w' ⟨rfl, ⟨nd, rfl⟩⟩)
    go_ret2
    exact ⟨rfl, pw_below_drewN (Below.refl _ _) _⟩
end Go.Proofs.Ytkbhmikjnoncfaa.P
