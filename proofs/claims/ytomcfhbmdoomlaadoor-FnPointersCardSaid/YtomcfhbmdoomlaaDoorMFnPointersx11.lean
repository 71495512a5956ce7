/- FnPointers: part 12 of 27 of my texts for this claim, joined; the theorem stands in the last. Conditions: none beyond the statement's. -/
import Derived.Test.YtomcfhbmdoomlaaDoorMFnPointersx10
import Derived.Test.YtomcfhbmdoomlaaDoorMFnPointersx8
import Derived.Test.YtomcfhbmdoomlaaDoorMFnPointersx9
import Derived.Test.YtomcfhbmdoomlaaDoorMFnPointersx2
import Derived.Test.YtomcfhbmdoomlaaDoorMFnPointersx4
-- HPut
/- impl.putName: the closure that asks whether a name stands at a place. Conditions: none. -/
namespace Go.Proofs.YtomcfhbmdoomlaaDoor.P
open Go.RowKit Go.Proofs.YtomcfhbmdoomlaaDoorW.PrintWords Go.Proofs.YtomcfhbmdoomlaaDoorW.PrintLast Go.Proofs.YtomcfhbmdoomlaaDoorW.PrintMore
set_option linter.unusedVariables false
set_option linter.unusedSimpArgs false

set_option maxHeartbeats 2000000 in
theorem put_closure (k : Nat) (b rest : ByteArray) (x : Int) (t1 : ByteArray) (t2 : List Int) (t3 : Int) (t4 : Bool) (h : impl_takeName.f k b x = some (t1, t2, t3, t4)) (W : World) (gb gr : Nat)
    (hb : W.cell? ⟨gb, 0, none⟩ = some (.string b)) (hr : W.cell? ⟨gr, 0, none⟩ = some (.string rest)) :
    Calls Tryd.prog 71 #[.int .i64 x, .pointer (some ⟨gb, 0, none⟩), .pointer (some ⟨gr, 0, none⟩)] W fun e W' => e = .returned (.bool (t4 && (t1.toList == rest.toList))) ∧ Below W.heap.size W W' := by
  have tc := impl_takeName.calls k b x t1 t2 t3 t4 W h
  clear h
  cases t4 with
  | false =>
    go_enter Tryd.func71, Tryd.ntmps71
    go_wp2_with (go_at_call 42; refine tc.mono ?_; rintro e w1 ⟨v, rfl, hR, hbw⟩; have l1 := (hbw.cell (World.block_lt_of_cell? _ _ hr)).trans hr)
    go_ret
    exact ⟨rfl, hbw⟩
  | true =>
    cases hq : (t1.toList == rest.toList) with
    | true =>
      go_enter Tryd.func71, Tryd.ntmps71
      go_wp2_with (go_at_call 42; refine tc.mono ?_; rintro e w1 ⟨v, rfl, hR, hbw⟩; have l1 := (hbw.cell (World.block_lt_of_cell? _ _ hr)).trans hr)
      go_ret
      exact ⟨by first | rfl | simp [hq], hbw⟩
    | false =>
      go_enter Tryd.func71, Tryd.ntmps71
      go_wp2_with (go_at_call 42; refine tc.mono ?_; rintro e w1 ⟨v, rfl, hR, hbw⟩; have l1 := (hbw.cell (World.block_lt_of_cell? _ _ hr)).trans hr)
      go_ret
      exact ⟨by first | rfl | simp [hq], hbw⟩
end Go.Proofs.YtomcfhbmdoomlaaDoor.P

-- F84
-- By my own call of the kit's print (wip/tools/pp.py).
namespace Go.Proofs.YtomcfhbmdoomlaaDoor.P
open Go.RowKit Go.Proofs.YtomcfhbmdoomlaaDoorW.PrintWords Go.Proofs.YtomcfhbmdoomlaaDoorW.PrintLast Go.Proofs.YtomcfhbmdoomlaaDoorW.PrintMore
attribute [local go_sem] max2_int min2_int max_two min_two max_three min_three max_four min_four
set_option linter.unusedVariables false
set_option linter.unusedSimpArgs false

/-! ### stringslite_Cut: function 84 -/
def stringslite_Cut.f (a0 : ByteArray) (a1 : ByteArray) : Option (ByteArray × ByteArray × Bool) := (internal_stringslite_Index.f a0 a1).bind fun t283 => (if t283 ≥ 0 then (if 0 ≤ t283 then (if t283 ≤ (a0.size : Int) then (if 0 ≤ (wrap64 (t283 + (a1.size : Int))) then (if (wrap64 (t283 + (a1.size : Int))) ≤ (a0.size : Int) then (some (a0.extract 0 (t283 : Int).toNat, a0.extract ((wrap64 (t283 + (a1.size : Int))) : Int).toNat a0.size, true)) else (none)) else (none)) else (none)) else (none)) else (some (a0, (⟨#[]⟩ : ByteArray), false)))
set_option maxHeartbeats 8000000 in
set_option maxRecDepth 100000 in
theorem stringslite_Cut.calls (a0 : ByteArray) (a1 : ByteArray) (r1 : ByteArray) (r2 : ByteArray) (r3 : Bool) (w : World) (h : stringslite_Cut.f a0 a1 = some (r1, r2, r3)) :
    Calls Tryd.prog 84 #[.string a0, .string a1] w fun e w' => e = .returned (.tuple #[.string r1, .string r2, .bool r3]) ∧ Drawn0 w w' := by
  have H : ((internal_stringslite_Index.f a0 a1).bind fun t283 => (if t283 ≥ 0 then (if 0 ≤ t283 then (if t283 ≤ (a0.size : Int) then (if 0 ≤ (wrap64 (t283 + (a1.size : Int))) then (if (wrap64 (t283 + (a1.size : Int))) ≤ (a0.size : Int) then (some (a0.extract 0 (t283 : Int).toNat, a0.extract ((wrap64 (t283 + (a1.size : Int))) : Int).toNat a0.size, true)) else (none)) else (none)) else (none)) else (none)) else (some (a0, (⟨#[]⟩ : ByteArray), false)))) = some (r1, r2, r3) := h
  clear h
  replace H := Option.bind_eq_some_iff.mp H
  obtain ⟨t283, A30, H⟩ := H
  replace H : (if t283 ≥ 0 then (if 0 ≤ t283 then (if t283 ≤ (a0.size : Int) then (if 0 ≤ (wrap64 (t283 + (a1.size : Int))) then (if (wrap64 (t283 + (a1.size : Int))) ≤ (a0.size : Int) then (some (a0.extract 0 (t283 : Int).toNat, a0.extract ((wrap64 (t283 + (a1.size : Int))) : Int).toNat a0.size, true)) else (none)) else (none)) else (none)) else (none)) else (some (a0, (⟨#[]⟩ : ByteArray), false))) = some (r1, r2, r3) := H
  have A3 := Aside0.mk A30
  clear A30
  by_cases c4 : t283 ≥ 0
  · rw [if_pos c4] at H
    have c4b0 : decide (0 ≤ t283) = true := decide_eq_true c4
    clear c4
    by_cases c5 : 0 ≤ t283
    · rw [if_pos c5] at H
      have c5b0 := eq_true c5
      have c5b1 : decide (0 ≤ t283) = true := decide_eq_true c5
      clear c5
      by_cases c6 : t283 ≤ (a0.size : Int)
      · rw [if_pos c6] at H
        have c6b0 := eq_true c6
        have c6b1 : decide (t283 ≤ (a0.size : Int)) = true := decide_eq_true c6
        clear c6
        obtain ⟨ji7, hji7⟩ : ∃ j_ : Int, (wrap64 (t283 + (a1.size : Int))) = j_ := ⟨_, rfl⟩
        replace H : (if 0 ≤ (ji7) then (if (ji7) ≤ (a0.size : Int) then (some (a0.extract 0 (t283 : Int).toNat, a0.extract ((ji7) : Int).toNat a0.size, true)) else (none)) else (none)) = some (r1, r2, r3) := by first | (rw [hji7] at H; exact H) | (simp only [hji7] at H ⊢; exact H)
        (try rw [hji7] at A3)
        have hji7w : (IntKind.i64.wrap (t283 + (a1.size : Int))) = ji7 := (i64_w _).trans hji7
        by_cases c8 : 0 ≤ (ji7)
        · rw [if_pos c8] at H
          have c8b0 := eq_true c8
          have c8b1 : decide (0 ≤ (ji7)) = true := decide_eq_true c8
          clear c8
          by_cases c9 : (ji7) ≤ (a0.size : Int)
          · rw [if_pos c9] at H
            have c9b0 := eq_true c9
            have c9b1 : decide ((ji7) ≤ (a0.size : Int)) = true := decide_eq_true c9
            clear c9
            simp only [Option.some.injEq, Prod.mk.injEq] at H
            obtain ⟨rfl, rfl, rfl⟩ := H
            go_enter Tryd.func84, Tryd.ntmps84
            go_wp2_with (first | (go_at_call 96; (with_reducible refine (internal_stringslite_Index.calls a0 a1 t283 _ A3.out).mono ?_); rintro e w' ⟨rfl, ⟨nd, rfl⟩⟩; (try first | exact ⟨rfl, _, World.drewN_drewN _ _ _⟩ | exact ⟨rfl, _, Eq.trans (World.drewN_drewN _ _ _) (congrArg (World.drewN _) (Nat.add_assoc _ _ _))⟩)))
            repeat (go_quiet (first | (go_at_call 96; (with_reducible refine (internal_stringslite_Index.calls a0 a1 t283 _ A3.out).mono ?_); rintro e w' ⟨rfl, ⟨nd, rfl⟩⟩; (try first | exact ⟨rfl, _, World.drewN_drewN _ _ _⟩ | exact ⟨rfl, _, Eq.trans (World.drewN_drewN _ _ _) (congrArg (World.drewN _) (Nat.add_assoc _ _ _))⟩))); try go_wp2_with (first | (go_at_call 96; (with_reducible refine (internal_stringslite_Index.calls a0 a1 t283 _ A3.out).mono ?_); rintro e w' ⟨rfl, ⟨nd, rfl⟩⟩; (try first | exact ⟨rfl, _, World.drewN_drewN _ _ _⟩ | exact ⟨rfl, _, Eq.trans (World.drewN_drewN _ _ _) (congrArg (World.drewN _) (Nat.add_assoc _ _ _))⟩))))
            go_ret3
            exact ⟨by first | rfl | (simp; done) | (simp only [← hji7] <;> (first | rfl | simp)) | (simp [*]; done), by repeat (first | exact Drawn0.refl _ | apply Drawn0.step)⟩
          · rw [if_neg c9] at H
            exact absurd H (by simp)
        · rw [if_neg c8] at H
          exact absurd H (by simp)
      · rw [if_neg c6] at H
        exact absurd H (by simp)
    · rw [if_neg c5] at H
      exact absurd H (by simp)
  · rw [if_neg c4] at H
    have c4b0 : decide (0 ≤ t283) = false := decide_eq_false c4
    clear c4
    simp only [Option.some.injEq, Prod.mk.injEq] at H
    obtain ⟨rfl, rfl, rfl⟩ := H
    go_enter Tryd.func84, Tryd.ntmps84
    go_wp2_with (first | (go_at_call 96; (with_reducible refine (internal_stringslite_Index.calls a0 a1 t283 _ A3.out).mono ?_); rintro e w' ⟨rfl, ⟨nd, rfl⟩⟩; (try first | exact ⟨rfl, _, World.drewN_drewN _ _ _⟩ | exact ⟨rfl, _, Eq.trans (World.drewN_drewN _ _ _) (congrArg (World.drewN _) (Nat.add_assoc _ _ _))⟩)))
    repeat (go_quiet (first | (go_at_call 96; (with_reducible refine (internal_stringslite_Index.calls a0 a1 t283 _ A3.out).mono ?_); rintro e w' ⟨rfl, ⟨nd, rfl⟩⟩; (try first | exact ⟨rfl, _, World.drewN_drewN _ _ _⟩ | exact ⟨rfl, _, Eq.trans (World.drewN_drewN _ _ _) (congrArg (World.drewN _) (Nat.add_assoc _ _ _))⟩))); try go_wp2_with (first | (go_at_call 96; (with_reducible refine (internal_stringslite_Index.calls a0 a1 t283 _ A3.out).mono ?_); rintro e w' ⟨rfl, ⟨nd, rfl⟩⟩; (try first | exact ⟨rfl, _, World.drewN_drewN _ _ _⟩ | exact ⟨rfl, _, Eq.trans (World.drewN_drewN _ _ _) (congrArg (World.drewN _) (Nat.add_assoc _ _ _))⟩))))
    go_ret3
    exact ⟨by first | rfl | (simp; done) | (simp [*]; done), by repeat (first | exact Drawn0.refl _ | apply Drawn0.step)⟩

end Go.Proofs.YtomcfhbmdoomlaaDoor.P

-- F72
-- By my own call of the kit's print (wip/tools/pp.py).
namespace Go.Proofs.YtomcfhbmdoomlaaDoor.P
open Go.RowKit Go.Proofs.YtomcfhbmdoomlaaDoorW.PrintWords Go.Proofs.YtomcfhbmdoomlaaDoorW.PrintLast Go.Proofs.YtomcfhbmdoomlaaDoorW.PrintMore
attribute [local go_sem] max2_int min2_int max_two min_two max_three min_three max_four min_four
set_option linter.unusedVariables false
set_option linter.unusedSimpArgs false

/-! ### strings_Cut: function 72 -/
def strings_Cut.f (a0 : ByteArray) (a1 : ByteArray) : Option (ByteArray × ByteArray × Bool) := (stringslite_Cut.f a0 a1).bind fun bt284 => (some (bt284.1, bt284.2.1, bt284.2.2))
set_option maxHeartbeats 8000000 in
set_option maxRecDepth 100000 in
theorem strings_Cut.calls (a0 : ByteArray) (a1 : ByteArray) (r1 : ByteArray) (r2 : ByteArray) (r3 : Bool) (w : World) (h : strings_Cut.f a0 a1 = some (r1, r2, r3)) :
    Calls Tryd.prog 72 #[.string a0, .string a1] w fun e w' => e = .returned (.tuple #[.string r1, .string r2, .bool r3]) ∧ Drawn0 w w' := by
  have H : ((stringslite_Cut.f a0 a1).bind fun bt284 => (some (bt284.1, bt284.2.1, bt284.2.2))) = some (r1, r2, r3) := h
  clear h
  replace H := Option.bind_eq_some_iff.mp H
  obtain ⟨⟨t284, t285, t286⟩, A30, H⟩ := H
  replace H : (some (t284, t285, t286)) = some (r1, r2, r3) := H
  have A3 := Aside0.mk A30
  clear A30
  simp only [Option.some.injEq, Prod.mk.injEq] at H
  obtain ⟨rfl, rfl, rfl⟩ := H
  go_enter Tryd.func72, Tryd.ntmps72
  go_wp2_with (first | ((with_reducible refine gate_callee (f := 84) rfl ?_); refine goesL_ (some 9) rfl rfl Tryd.func84 (by kernel_rfl) rfl #[.string a0, .string a1] rfl (by (try simp only [List.map_toArray, List.map_cons, List.map_nil]); first | done | rfl | (simp only [List.length_drop, List.length_take]; rfl)) ?_; (with_reducible refine (stringslite_Cut.calls a0 a1 t284 t285 t286 _ A3.out).mono ?_); rintro e w' ⟨rfl, ⟨nd, rfl⟩⟩; refine ⟨_, rfl, ?_⟩))
  go_ret3
  exact ⟨by first | rfl | (simp; done) | (simp [*]; done), by repeat (first | exact Drawn0.refl _ | apply Drawn0.step)⟩

end Go.Proofs.YtomcfhbmdoomlaaDoor.P

-- F69
-- By my own call of the kit's print (wip/tools/pp.py).
namespace Go.Proofs.YtomcfhbmdoomlaaDoor.P
open Go.RowKit Go.Proofs.YtomcfhbmdoomlaaDoorW.PrintWords Go.Proofs.YtomcfhbmdoomlaaDoorW.PrintLast Go.Proofs.YtomcfhbmdoomlaaDoorW.PrintMore
attribute [local go_sem] max2_int min2_int max_two min_two max_three min_three max_four min_four
set_option linter.unusedVariables false
set_option linter.unusedSimpArgs false

/-! ### impl_parentOf: function 69 -/
def impl_parentOf.f (a0 : ByteArray) : Option (ByteArray) := (strings_Cut.f a0 (⟨#[46]⟩ : ByteArray)).bind fun bt287 => (some bt287.2.1)
set_option maxHeartbeats 8000000 in
set_option maxRecDepth 100000 in
theorem impl_parentOf.calls (a0 : ByteArray) (r : ByteArray) (w : World) (h : impl_parentOf.f a0 = some r) :
    Calls Tryd.prog 69 #[.string a0] w fun e w' => e = .returned (.string r) ∧ Drawn0 w w' := by
  have H : ((strings_Cut.f a0 (⟨#[46]⟩ : ByteArray)).bind fun bt287 => (some bt287.2.1)) = some r := h
  clear h
  replace H := Option.bind_eq_some_iff.mp H
  obtain ⟨⟨t287, t288, t289⟩, A20, H⟩ := H
  replace H : (some t288) = some r := H
  have A2 := Aside0.mk A20
  clear A20
  obtain rfl := Option.some.inj H
  go_enter Tryd.func69, Tryd.ntmps69
  go_wp2_with (first | ((with_reducible refine gate_callee (f := 72) rfl ?_); refine goesL_ (some 8) rfl rfl Tryd.func72 (by kernel_rfl) rfl #[.string a0, .string (⟨#[46]⟩ : ByteArray)] rfl (by (try simp only [List.map_toArray, List.map_cons, List.map_nil]); first | done | rfl | (simp only [List.length_drop, List.length_take]; rfl)) ?_; (with_reducible refine (strings_Cut.calls a0 (⟨#[46]⟩ : ByteArray) t287 t288 t289 _ A2.out).mono ?_); rintro e w' ⟨rfl, ⟨nd, rfl⟩⟩; refine ⟨_, rfl, ?_⟩))
  go_ret
  exact ⟨by first | rfl | (simp; done) | (simp [*]; done), by repeat (first | exact Drawn0.refl _ | apply Drawn0.step)⟩

end Go.Proofs.YtomcfhbmdoomlaaDoor.P

-- HPutW
/- impl.putName: its walk, over the closure, slices.IndexFunc and strings.Cut. Conditions: none. -/
namespace Go.Proofs.YtomcfhbmdoomlaaDoor.P
open Go.RowKit Go.Proofs.YtomcfhbmdoomlaaDoorW.PrintWords Go.Proofs.YtomcfhbmdoomlaaDoorW.PrintLast Go.Proofs.YtomcfhbmdoomlaaDoorW.PrintMore
set_option linter.unusedVariables false
set_option linter.unusedSimpArgs false
def putP (k : Nat) (b rest : ByteArray) (x : Int) : Bool := match impl_takeName.f k b x with
  | some t => t.2.2.2 && (t.1.toList == rest.toList)
  | none => false
def putDef (k : Nat) (b : ByteArray) (places : List Int) : Bool := places.all fun x => (impl_takeName.f k b x).isSome
def impl_putName.l0 : Nat → ByteArray → List Int → ByteArray → ByteArray → Option ByteArray
  | 0, _, _, _, _ => none
  | k + 1, b, places, ahead, rest => if rest.toList = ([] : List UInt8) then (if b.size + ahead.size < 1099511627776 then some ((b ++ ahead) ++ (⟨#[0]⟩ : ByteArray)) else none) else (if putDef k b places = true then (if 0 ≤ idxP (putP k b rest) places 0 then (if b.size + ahead.size < 1099511627776 then some ((b ++ ahead) ++ strOfNums [(wrap64 (192 + (wrap64 (Int.tdiv (rd places (idxP (putP k b rest) places 0)) 256)))) % 256, (rd places (idxP (putP k b rest) places 0)) % 256]) else none) else ((strings_Cut.f rest (⟨#[46]⟩ : ByteArray)).bind fun c => (if ahead.size + c.1.size < 1099511627776 then ((impl_parentOf.f rest).bind fun p => impl_putName.l0 k b places (ahead ++ (strOfNums [((c.1.size : Int)) % 256] ++ c.1)) p) else none))) else none)
def impl_putName.f (k : Nat) (b s : ByteArray) : Option ByteArray := (impl_suffixesOf.f k b).bind fun places => impl_putName.l0 k b places (⟨#[]⟩ : ByteArray) s
theorem cell_new (w : World) (v : Value) (t : TypeId) : (w.alloc (Obj.cells #[v] t)).cell? ⟨w.heap.size, 0, none⟩ = some v := by
  unfold World.cell?
  rw [heap_alloc_new]
  simp
theorem put_next (w3 : World) (c1 : Obj) (rest par : ByteArray) (t : TypeId) (nd : Nat) :
    Below w3.heap.size w3 ((((w3.alloc c1).alloc (Obj.cells #[.string rest] t)).drewN nd).setCell ⟨w3.heap.size + 1, 0, none⟩ (.string par)) ∧ ((((w3.alloc c1).alloc (Obj.cells #[.string rest] t)).drewN nd).setCell ⟨w3.heap.size + 1, 0, none⟩ (.string par)).cell? ⟨w3.heap.size + 1, 0, none⟩ = some (.string par) := by
  have hs : (w3.alloc c1).heap.size = w3.heap.size + 1 := by simp [World.alloc, -World.alloc_eq]
  have hq0 : ((w3.alloc c1).alloc (Obj.cells #[.string rest] t)).heap[w3.heap.size + 1]? = some (.cells #[.string rest] t) := by rw [← hs]; exact heap_alloc_new _ _
  have hq : (((w3.alloc c1).alloc (Obj.cells #[.string rest] t)).drewN nd).heap[w3.heap.size + 1]? = some (.cells #[.string rest] t) := hq0
  have b1 : Below w3.heap.size w3 (((w3.alloc c1).alloc (Obj.cells #[.string rest] t)).drewN nd) := pw_below_drewN (below_alloc (below_alloc (Below.refl _ _) _) _) nd
  rw [setCell_eq_setRow _ _ _ _ _ _ _ hq]
  refine ⟨⟨b1.os, b1.tape, b1.output, by rw [setRow_size]; exact b1.size, fun k hk => by rw [setRow_other _ _ _ _ (by omega)]; exact b1.block k hk⟩, ?_⟩
  unfold World.cell?
  rw [setRow_heap _ _ _ _ _ _ hq]
  simp
theorem put_pred (k : Nat) (b rest : ByteArray) (places : List Int) (hd : putDef k b places = true) (W : World) (gb gr : Nat)
    (hb : W.cell? ⟨gb, 0, none⟩ = some (.string b)) (hr : W.cell? ⟨gr, 0, none⟩ = some (.string rest)) :
    PredB 71 #[.pointer (some ⟨gb, 0, none⟩), .pointer (some ⟨gr, 0, none⟩)] (.int .i64) (putP k b rest) places W := by
  intro x hx W' hW
  have h1 := List.all_eq_true.1 hd x hx
  obtain ⟨t, ht⟩ := Option.isSome_iff_exists.1 h1
  obtain ⟨t1, t2, t3, t4⟩ := t
  have e : putP k b rest x = (t4 && (t1.toList == rest.toList)) := by unfold putP; rw [ht]
  rw [e]
  exact put_closure k b rest x t1 t2 t3 t4 ht W' gb gr ((hW.cell (World.block_lt_of_cell? _ _ hb)).trans hb) ((hW.cell (World.block_lt_of_cell? _ _ hr)).trans hr)
theorem idxP_lt {α : Type} (p : α → Bool) (xs : List α) : idxP p xs 0 < (xs.length : Int) := by
  have : ∀ (xs : List α) (i : Int), 0 ≤ i → idxP p xs i < i + (xs.length : Int) ∨ idxP p xs i = -1 := by
    intro xs
    induction xs with
    | nil => intro i _; exact .inr rfl
    | cons x xs ih =>
      intro i h0
      unfold idxP
      split
      · left; simp only [List.length_cons]; omega
      · rcases ih (i + 1) (by omega) with h | h
        · left; simp only [List.length_cons]; omega
        · exact .inr h
  rcases this xs 0 (by omega) with h | h
  · omega
  · rw [h]; omega
set_option maxRecDepth 100000 in
set_option maxHeartbeats 4000000 in
theorem put_walk (k : Nat) (b s : ByteArray) (places : List Int) (r : ByteArray) (w : World) (h : impl_suffixesOf.f k b = some places) (h2 : impl_putName.l0 k b places (⟨#[]⟩ : ByteArray) s = some r) :
    Calls Tryd.prog 49 #[.string b, .string s] w fun e w' => e = .returned (.string r) ∧ Below w.heap.size w w' := by
  have sc := fun W => impl_suffixesOf.calls k b places W h
  have H' := Aside0.mk h2
  clear h h2
  go_enter Tryd.func49, Tryd.ntmps49
  go_wp2_with (go_at_call 44; refine (sc _).mono ?_; rintro e w1 ⟨v, rfl, hR, hbw⟩; have HO := Aside0.mk hR; have HB1 := Aside0.mk hbw; clear hR hbw; obtain ⟨A, c, rfl⟩ := Kd.R_slice HO.out)
  go_loopg [6, 7] k (fun kq v6 v7 wr => ∃ (ahead rest : ByteArray) (gr : Nat), v6 = .string ahead ∧ v7 = .pointer (some ⟨gr, 0, none⟩) ∧ Aside0 (impl_putName.l0 kq b places ahead rest = some r) ∧ Aside0 (kq ≤ k) ∧ Aside0 (Kd.C (Kd.int .i64) wr A places.length places) ∧ Aside0 (wr.cell? ⟨w.heap.size, 0, none⟩ = some (.string b)) ∧ Aside0 (wr.cell? ⟨gr, 0, none⟩ = some (.string rest)) ∧ Aside0 (w.heap.size ≤ gr) ∧ Aside0 (Below w.heap.size w wr))
  case atStart =>
    have hc0 : (w.alloc (Obj.cells #[.string b] 9)).cell? ⟨w.heap.size, 0, none⟩ = some (.string b) := cell_new w _ _
    have hc1 := (HB1.out.cell (World.block_lt_of_cell? _ _ hc0)).trans hc0
    have hw1 : w.heap.size ≤ w1.heap.size := Nat.le_trans (below_alloc (Below.refl _ w) _).size HB1.out.size
    exact ⟨(⟨#[]⟩ : ByteArray), s, w1.heap.size, rfl, rfl, H', ⟨Nat.le_refl _⟩, ⟨(Kd.R_reads' (Kd.R_alloc HO.out _)).2.2⟩, ⟨(World.cell?_alloc_lt _ _ _ (World.block_lt_of_cell? _ _ hc1)).trans hc1⟩, ⟨cell_new w1 _ _⟩, ⟨hw1⟩, ⟨below_alloc (below_then (below_alloc (Below.refl _ w) _) (below_alloc (Below.refl _ w) _).size HB1.out) _⟩⟩
  case round =>
    obtain ⟨ahead, rest, gr, rfl, rfl, HA, HK1, HC, HB, HR, HG, BW⟩ := hrel
    cases gk with
    | zero => exact absurd HA.out (by simp [impl_putName.l0])
    | succ k1 =>
      have H := HA.out
      clear HA
      simp only [impl_putName.l0] at H
      by_cases c1 : rest.toList = ([] : List UInt8)
      · rw [if_pos c1] at H
        have c1b : (rest.toList == ([] : List UInt8)) = true := by rw [c1]; rfl
        have c1c : (rest.toList != ([] : List UInt8)) = false := by rw [c1]; rfl
        by_cases c4 : b.size + ahead.size < 1099511627776
        · rw [if_pos c4] at H
          have c5a := eq_true (show b.size + ahead.size ≤ 9223372036854775807 by omega)
          have c5b : decide (b.size + ahead.size ≤ 9223372036854775807) = true := decide_eq_true (by omega)
          have c5c : (9223372036854775807 < b.size + ahead.size) = False := eq_false (by omega)
          have hbs : (b ++ ahead).size = b.size + ahead.size := ByteArray.size_append
          have c6a := eq_true (show b.size + ahead.size + 1 ≤ 9223372036854775807 by omega)
          have c6b : decide (b.size + ahead.size + 1 ≤ 9223372036854775807) = true := decide_eq_true (by omega)
          have c6c : (9223372036854775807 < b.size + ahead.size + 1) = False := eq_false (by omega)
          clear hbs
          have hb0 := HB.out
          have hr0 := HR.out
          go_wp2
          go_ret
          obtain rfl := Option.some.inj H
          exact ⟨rfl, BW.out⟩
        · rw [if_neg c4] at H
          cases H
      · rw [if_neg c1] at H
        have c1b : (rest.toList == ([] : List UInt8)) = false := beq_eq_false_iff_ne.mpr c1
        have c1c : (rest.toList != ([] : List UInt8)) = true := by rw [bne, c1b]; rfl
        by_cases c2 : putDef k1 b places = true
        · rw [if_pos c2] at H
          have eg : ∀ args w, (callFunc 71 args).run Tryd.prog w = .ok (.enter 71 args) w := enters_of Tryd.func71 (by kernel_rfl) rfl
          have ic := fun W (hbW : Below wr.heap.size wr W) => index_int A c places 71 #[.pointer (some ⟨w.heap.size, 0, none⟩), .pointer (some ⟨gr, 0, none⟩)] (putP k1 b rest) W (Kd.C_below HC.out hbW) eg (put_pred k1 b rest places c2 W w.heap.size gr ((hbW.cell (World.block_lt_of_cell? _ _ HB.out)).trans HB.out) ((hbW.cell (World.block_lt_of_cell? _ _ HR.out)).trans HR.out))
          have hb0 := HB.out
          have hr0 := HR.out
          generalize hi : idxP (putP k1 b rest) places 0 = i at H ic
          have HI := Aside0.mk hi
          clear hi
          have ic0 := ic wr (Below.refl _ _)
          clear ic eg
          by_cases c3 : 0 ≤ i
          · rw [if_pos c3] at H
            have c3b : decide (0 ≤ i) = true := decide_eq_true c3
            have hil : i < (places.length : Int) := by have := idxP_lt (putP k1 b rest) places; rw [HI.out] at this; omega
            by_cases c4 : b.size + ahead.size < 1099511627776
            · rw [if_pos c4] at H
              obtain ⟨ad, e0, hx0⟩ := Kd.at_int HC.out i c3 hil
              cases e0
              have c5a := eq_true (show b.size + ahead.size ≤ 9223372036854775807 by omega)
              have c5b : decide (b.size + ahead.size ≤ 9223372036854775807) = true := decide_eq_true (by omega)
              have c5c : (9223372036854775807 < b.size + ahead.size) = False := eq_false (by omega)
              generalize rd places i = pv at H hx0
              obtain ⟨y, hy⟩ : ∃ y : List Int, y = [(wrap64 (192 + (wrap64 (Int.tdiv pv 256)))) % 256, pv % 256] := ⟨_, rfl⟩
              rw [← hy] at H
              have hys : (strOfNums y).size = 2 := by rw [hy, strOfNums_size]; rfl
              have Ny := Aside0.mk hy
              clear hy
              have hbs : (b ++ ahead).size = b.size + ahead.size := ByteArray.size_append
              have c6a := eq_true (show b.size + ahead.size + (strOfNums y).size ≤ 9223372036854775807 by omega)
              have c6b : decide (b.size + ahead.size + (strOfNums y).size ≤ 9223372036854775807) = true := decide_eq_true (by omega)
              have c6c : (9223372036854775807 < b.size + ahead.size + (strOfNums y).size) = False := eq_false (by omega)
              have c3z := eq_true c3
              have hilz := eq_true hil
              clear hys hbs
              go_wp2_with (go_at_call 70; refine ic0.mono ?_; rintro e w2 ⟨rfl, hb2⟩)
              have hb3 := ((hb2.cell (World.block_lt_of_cell? _ _ hb0)).trans hb0)
              have hx := ((hb2.cell (World.block_lt_of_cell? _ _ hx0)).trans hx0)
              have BW2 := Aside0.mk (below_drew1 (below_then BW.out BW.out.size hb2))
              refine start_ (n := 19) (S := fun w' => w'.cell? ⟨w.heap.size, 0, none⟩ = some (.string b) ∧ w'.cell? (ad.add i.toNat) = some (.int .i64 pv)) (ds := []) #[false, false, false, false, false, false, false, false, false, false, false, false, false, false, false, false, false, false, false] (by kernel_rfl) rfl rfl ⟨hb3, hx⟩ (fun hHeld => ?_)
              generalize hw3 : w2.drew = w3 at BW2 hb3 hx hHeld ⊢
              refine pure_ (i := 1) (N := some 25) (v := ?_) (a' := ?_) #[false, true, false, false, false, false, false, false, false, false, false, false, false, false, false, false, false, false, false] rfl rfl (by kernel_rfl) (fun _ _ _ h => h) (Or.inl ⟨by rfl, ?_⟩) ?_ ?_
              rotate_left
              · intro w'
                go_simp
                with_reducible rfl
              rotate_left
              · simp only [Act.put, List.setIfInBounds_toArray, List.set_cons_zero, List.set_cons_succ, i64_w, i32_w]
                rfl
              refine pure_ (i := 3) (N := some 27) (v := ?_) (a' := ?_) #[false, true, false, true, false, false, false, false, false, false, false, false, false, false, false, false, false, false, false] rfl rfl (by kernel_rfl) (fun _ _ _ h => h) (Or.inl ⟨by rfl, ?_⟩) ?_ ?_
              rotate_left
              · intro w'
                go_simp
                with_reducible rfl
              rotate_left
              · simp only [Act.put, List.setIfInBounds_toArray, List.set_cons_zero, List.set_cons_succ, i64_w, i32_w]
                rfl
              refine pure_ (i := 4) (N := some 28) (v := ?_) (a' := ?_) #[false, true, false, true, true, false, false, false, false, false, false, false, false, false, false, false, false, false, false] rfl rfl (by kernel_rfl) (fun _ _ _ h => h) (Or.inl ⟨by rfl, ?_⟩) ?_ ?_
              rotate_left
              · intro w'
                go_simp
                with_reducible rfl
              rotate_left
              · simp only [Act.put, List.setIfInBounds_toArray, List.set_cons_zero, List.set_cons_succ, i64_w, i32_w]
                rfl
              refine pure_ (i := 5) (N := some 29) (v := ?_) (a' := ?_) #[false, true, false, true, true, true, false, false, false, false, false, false, false, false, false, false, false, false, false] rfl rfl (by kernel_rfl) (fun _ _ _ h => h) (Or.inl ⟨by rfl, ?_⟩) ?_ ?_
              rotate_left
              · intro w'
                go_simp
                with_reducible rfl
              rotate_left
              · simp only [Act.put, List.setIfInBounds_toArray, List.set_cons_zero, List.set_cons_succ, i64_w, i32_w]
                rfl
              refine pure_ (i := 10) (N := some 34) (v := ?_) (a' := ?_) #[false, true, false, true, true, true, false, false, false, false, true, false, false, false, false, false, false, false, false] rfl rfl (by kernel_rfl) (fun _ _ _ h => h) (Or.inl ⟨by rfl, ?_⟩) ?_ ?_
              rotate_left
              · intro w'
                go_simp
                with_reducible rfl
              rotate_left
              · simp only [Act.put, List.setIfInBounds_toArray, List.set_cons_zero, List.set_cons_succ, i64_w, i32_w]
                rfl
              refine pure_ (i := 11) (N := some 35) (v := ?_) (a' := ?_) #[false, true, false, true, true, true, false, false, false, false, true, true, false, false, false, false, false, false, false] rfl rfl (by kernel_rfl) (fun _ _ _ h => h) (Or.inl ⟨by rfl, ?_⟩) ?_ ?_
              rotate_left
              · intro w'
                go_simp
                with_reducible rfl
              rotate_left
              · simp only [Act.put, List.setIfInBounds_toArray, List.set_cons_zero, List.set_cons_succ, i64_w, i32_w]
                rfl
              refine pure_ (i := 12) (N := some 36) (v := ?_) (a' := ?_) #[false, true, false, true, true, true, false, false, false, false, true, true, true, false, false, false, false, false, false] rfl rfl (by kernel_rfl) (fun _ _ _ h => h) (Or.inl ⟨by rfl, ?_⟩) ?_ ?_
              rotate_left
              · intro w'
                go_simp
                with_reducible rfl
              rotate_left
              · simp only [Act.put, List.setIfInBounds_toArray, List.set_cons_zero, List.set_cons_succ, i64_w, i32_w]
                rfl
              refine take_ (i := 0) (N := some 24) (v := ?_) (a' := ?_) #[true, true, false, true, true, true, false, false, false, false, true, true, true, false, false, false, false, false, false] rfl rfl (by kernel_rfl) (fun _ _ _ h => h) (Or.inl ⟨by rfl, ?_⟩) hHeld ?_ ?_
              rotate_left
              · rintro w' ⟨s0, s1⟩
                go_simp
                with_reducible rfl
              rotate_left
              · simp only [Act.put, List.setIfInBounds_toArray, List.set_cons_zero, List.set_cons_succ, i64_w, i32_w]
                rfl
              refine pure_ (i := 2) (N := some 26) (v := ?_) (a' := ?_) #[true, true, true, true, true, true, false, false, false, false, true, true, true, false, false, false, false, false, false] rfl rfl (by kernel_rfl) (fun _ _ _ h => h) (Or.inl ⟨by rfl, ?_⟩) ?_ ?_
              rotate_left
              · intro w'
                go_simp
                with_reducible rfl
              rotate_left
              · simp only [Act.put, List.setIfInBounds_toArray, List.set_cons_zero, List.set_cons_succ, i64_w, i32_w]
                rfl
              refine take_ (i := 6) (N := some 30) (v := ?_) (a' := ?_) #[true, true, true, true, true, true, true, false, false, false, true, true, true, false, false, false, false, false, false] rfl rfl (by kernel_rfl) (fun _ _ _ h => h) (Or.inl ⟨by rfl, ?_⟩) hHeld ?_ ?_
              rotate_left
              · rintro w' ⟨s0, s1⟩
                go_simp
                with_reducible rfl
              rotate_left
              · simp only [Act.put, List.setIfInBounds_toArray, List.set_cons_zero, List.set_cons_succ, i64_w, i32_w]
                rfl
              refine pure_ (i := 7) (N := some 31) (v := ?_) (a' := ?_) #[true, true, true, true, true, true, true, true, false, false, true, true, true, false, false, false, false, false, false] rfl rfl (by kernel_rfl) (fun _ _ _ h => h) (Or.inl ⟨by rfl, ?_⟩) ?_ ?_
              rotate_left
              · intro w'
                go_simp
                with_reducible rfl
              rotate_left
              · simp only [Act.put, List.setIfInBounds_toArray, List.set_cons_zero, List.set_cons_succ, i64_w, i32_w]
                rfl
              refine pure_ (i := 8) (N := some 32) (v := ?_) (a' := ?_) #[true, true, true, true, true, true, true, true, true, false, true, true, true, false, false, false, false, false, false] rfl rfl (by kernel_rfl) (fun _ _ _ h => h) (Or.inl ⟨by rfl, ?_⟩) ?_ ?_
              rotate_left
              · intro w'
                go_simp
                with_reducible rfl
              rotate_left
              · simp only [Act.put, List.setIfInBounds_toArray, List.set_cons_zero, List.set_cons_succ, i64_w, i32_w]
                rfl
              refine pure_ (i := 9) (N := some 33) (v := ?_) (a' := ?_) #[true, true, true, true, true, true, true, true, true, true, true, true, true, false, false, false, false, false, false] rfl rfl (by kernel_rfl) (fun _ _ _ h => h) (Or.inl ⟨by rfl, ?_⟩) ?_ ?_
              rotate_left
              · intro w'
                go_simp
                with_reducible rfl
              rotate_left
              · simp only [Act.put, List.setIfInBounds_toArray, List.set_cons_zero, List.set_cons_succ, i64_w, i32_w]
                rfl
              refine take_ (i := 13) (N := some 37) (v := ?_) (a' := ?_) #[true, true, true, true, true, true, true, true, true, true, true, true, true, true, false, false, false, false, false] rfl rfl (by kernel_rfl) (fun _ _ _ h => h) (Or.inl ⟨by rfl, ?_⟩) hHeld ?_ ?_
              rotate_left
              · rintro w' ⟨s0, s1⟩
                go_simp
                with_reducible rfl
              rotate_left
              · simp only [Act.put, List.setIfInBounds_toArray, List.set_cons_zero, List.set_cons_succ, i64_w, i32_w]
                rfl
              refine pure_ (i := 14) (N := some 38) (v := ?_) (a' := ?_) #[true, true, true, true, true, true, true, true, true, true, true, true, true, true, true, false, false, false, false] rfl rfl (by kernel_rfl) (fun _ _ _ h => h) (Or.inl ⟨by rfl, ?_⟩) ?_ ?_
              rotate_left
              · intro w'
                go_simp
                with_reducible rfl
              rotate_left
              · simp only [Act.put, List.setIfInBounds_toArray, List.set_cons_zero, List.set_cons_succ, i64_w, i32_w]
                rfl
              refine one_ (i := 15) (N := some 39) #[true, true, true, true, true, true, true, true, true, true, true, true, true, true, true, true, false, false, false] rfl rfl (by kernel_rfl) (by decide) (fun K hK => ?_)
              refine Kd.R_lit_step (Kd.int .u8) _ 5 ?hg (N := 39) ?hd (xs := ([(wrap64 (192 + (wrap64 (Int.tdiv pv 256)))) % 256, pv % 256] : List Int)) (inner := [.int .u8 ((wrap64 (192 + (wrap64 (Int.tdiv pv 256)))) % 256), .int .u8 (pv % 256)]) (ok := fun _ => True) (okp := fun _ => True) ?hr ?hp (fun _ hk => hk) trivial (Below.refl _ _) (Nat.le_refl _) (by simp) ?_; (case hd => rfl); (case hg => rfl); (case hr => first | (go_simp; done) | (go_simp; rfl)); (case hp => exact (Reps.one (show Kd.M (Kd.int .u8) _ _ _ ((wrap64 (192 + (wrap64 (Int.tdiv pv 256)))) % 256) [.int .u8 ((wrap64 (192 + (wrap64 (Int.tdiv pv 256)))) % 256)] from rfl) (Reps.one (show Kd.M (Kd.int .u8) _ _ _ (pv % 256) [.int .u8 (pv % 256)] from rfl) (Reps.none _ _))))
              intro vL wL hoL hb hg_ hnew_
              have HS0_ := (hb.cell (World.block_lt_of_cell? _ _ (hHeld.1))).trans (hHeld.1)
              have HS1_ := (hb.cell (World.block_lt_of_cell? _ _ (hHeld.2))).trans (hHeld.2)
              (first | rw [← Ny.out] at hoL | (simp only [Int.reduceToNat] at hoL; rw [← Ny.out] at hoL)); have HLIT := Aside0.mk hoL
              have n4_ := Aside0.mk (below_step BW2.out hb)
              clear BW2
              have BW2 := n4_
              clear n4_ hg_ hnew_ hb hoL
              refine hK.out _ _ ⟨HS0_, HS1_⟩ (fun hHeld => ?_)
              clear hK K
              refine norm_ (a' := ?_) ?_ ?_
              rotate_left
              · show Act.put _ (some 39) _ = _
                simp only [Act.put, List.setIfInBounds_toArray, List.set_cons_zero, List.set_cons_succ, i64_w, i32_w]
                rfl
              refine one_ (i := 16) (N := some 40) #[true, true, true, true, true, true, true, true, true, true, true, true, true, true, true, true, true, false, false] rfl rfl (by kernel_rfl) (by decide) (fun K hK => ?_)
              have hcvL := own_string (P := Tryd.prog) Tryd.underlying44 Tryd.underlying5 Tryd.underlying9 (Kd.own_of_R HLIT.out)
              refine value_ (w1 := ?_) (v := ?_) (by rfl) rfl ?_ ?_
              rotate_left 2
              · go_simp
                constructor
                · rfl
                · rfl
              clear hcvL
              refine hK.out _ _ ⟨hHeld.1, hHeld.2⟩ (fun hHeld => ?_)
              clear hK K
              refine norm_ (a' := ?_) ?_ ?_
              rotate_left
              · show Act.put _ (some 40) _ = _
                simp only [Act.put, List.setIfInBounds_toArray, List.set_cons_zero, List.set_cons_succ, i64_w, i32_w]
                rfl
              refine pure_ (i := 17) (N := some 41) (v := ?_) (a' := ?_) #[true, true, true, true, true, true, true, true, true, true, true, true, true, true, true, true, true, true, false] rfl rfl (by kernel_rfl) (fun _ _ _ h => h) (Or.inl ⟨by rfl, ?_⟩) ?_ ?_
              rotate_left
              · intro w'
                go_simp
                with_reducible rfl
              rotate_left
              · simp only [Act.put, List.setIfInBounds_toArray, List.set_cons_zero, List.set_cons_succ, i64_w, i32_w]
                rfl
              refine pure_ (i := 18) (N := some 4) (v := ?_) (a' := ?_) #[true, true, true, true, true, true, true, true, true, true, true, true, true, true, true, true, true, true, true] rfl rfl (by kernel_rfl) (fun _ _ _ h => h) (Or.inl ⟨by rfl, ?_⟩) ?_ ?_
              rotate_left
              · intro w'
                go_simp
                with_reducible rfl
              rotate_left
              · simp only [Act.put, List.setIfInBounds_toArray, List.set_cons_zero, List.set_cons_succ, i64_w, i32_w]
                rfl
              refine done_ (by kernel_rfl) ?_
              go_wp2
              go_ret
              obtain rfl := Option.some.inj H
              exact ⟨rfl, BW2.out⟩
            · rw [if_neg c4] at H
              cases H
          · rw [if_neg c3] at H
            have c3b : decide (0 ≤ i) = false := decide_eq_false c3
            replace H := Option.bind_eq_some_iff.mp H
            obtain ⟨⟨q1, q2, q3⟩, hcut, H⟩ := H
            replace H : (if ahead.size + q1.size < 1099511627776 then ((impl_parentOf.f rest).bind fun p => impl_putName.l0 k1 b places (ahead ++ (strOfNums [((q1.size : Int)) % 256] ++ q1)) p) else none) = some r := H
            by_cases c4 : ahead.size + q1.size < 1099511627776
            · rw [if_pos c4] at H
              replace H := Option.bind_eq_some_iff.mp H
              obtain ⟨par, hpar, H⟩ := H
              have cutc := fun W => strings_Cut.calls rest (⟨#[46]⟩ : ByteArray) q1 q2 q3 W hcut
              have parc := fun W => impl_parentOf.calls rest par W hpar
              have hcv0 := fun W : World => string_of_reads (P := Tryd.prog) (src := 44) (dst := 9) (c := 1) (w := W.alloc (Obj.cells #[.int .u8 ((q1.size : Int) % 256)] 5)) (A := some ⟨W.heap.size, 0, none⟩) (n := 1) (xs := [(q1.size : Int) % 256]) Tryd.underlying44 Tryd.underlying5 Tryd.underlying9 ⟨rfl, by omega, fun _ => ⟨_, rfl, fun j hj => by
                obtain rfl : j = 0 := by omega
                exact cell_new W _ _⟩⟩
              have hsb : (strOfNums [(q1.size : Int) % 256]).size = 1 := by rw [strOfNums_size]; rfl
              generalize strOfNums [(q1.size : Int) % 256] = sb at H hcv0 hsb
              have c5a := eq_true (show sb.size + q1.size ≤ 9223372036854775807 by omega)
              have c5b : decide (sb.size + q1.size ≤ 9223372036854775807) = true := decide_eq_true (by omega)
              have c5c : (9223372036854775807 < sb.size + q1.size) = False := eq_false (by omega)
              have c6a := eq_true (show ahead.size + (sb.size + q1.size) ≤ 9223372036854775807 by omega)
              have c6b : decide (ahead.size + (sb.size + q1.size) ≤ 9223372036854775807) = true := decide_eq_true (by omega)
              have c6c : (9223372036854775807 < ahead.size + (sb.size + q1.size)) = False := eq_false (by omega)
              clear hsb
              have HN := Aside0.mk H
              clear H
              go_wp2_with (first | (go_at_call 70; refine ic0.mono ?_; rintro e w2 ⟨rfl, hb2⟩; have hb3 := (hb2.cell (World.block_lt_of_cell? _ _ hb0)).trans hb0; have hr3 := (hb2.cell (World.block_lt_of_cell? _ _ hr0)).trans hr0; have BW2 := below_then BW.out BW.out.size hb2; have HC2 := Aside0.mk (Kd.C_below HC.out hb2)) | (go_at_call 72; refine (cutc _).mono ?_; rintro e w3_ ⟨rfl, ⟨nd, rfl⟩⟩; have hbd := pw_below_drewN (Below.refl w2.heap.size w2) nd; have hb4 := (hbd.cell (World.block_lt_of_cell? _ _ hb3)).trans hb3; have hr4 := (hbd.cell (World.block_lt_of_cell? _ _ hr3)).trans hr3; have BW3 := Aside0.mk (pw_below_drewN BW2 nd); have HC3 := Aside0.mk (Kd.C_below HC2.out hbd); clear hbd; generalize w2.drewN nd = w3 at hb4 hr4 BW3 HC3 ⊢; have hr5 := (World.cell?_alloc_lt w3 (Obj.cells #[.int .u8 ((q1.size : Int) % 256)] 5) _ (World.block_lt_of_cell? _ _ hr4)).trans hr4; have hcv := hcv0 w3) | (go_at_call 69; refine (parc _).mono ?_; rintro e w5_ ⟨rfl, ⟨nd5, rfl⟩⟩))
              obtain ⟨nx1, nx2⟩ := put_next w3 (Obj.cells #[.int .u8 ((q1.size : Int) % 256)] 5) rest par 9 nd5
              go_roundg k1
              case measure => have := HK1.out; omega
              case rel => exact ⟨ahead ++ (sb ++ q1), par, w3.heap.size + 1, rfl, rfl, HN, ⟨by have := HK1.out; omega⟩, ⟨Kd.C_below HC3.out nx1⟩, ⟨(nx1.cell (World.block_lt_of_cell? _ _ hb4)).trans hb4⟩, ⟨nx2⟩, ⟨by have := BW3.out.size; omega⟩, ⟨below_then BW3.out BW3.out.size nx1⟩⟩
            · rw [if_neg c4] at H
              cases H
        · rw [if_neg c2] at H
          cases H

theorem putDef_more {k : Nat} {b : ByteArray} {places : List Int} (h : putDef k b places = true) (rest : ByteArray) : putDef (k + 1) b places = true ∧ ∀ x ∈ places, putP (k + 1) b rest x = putP k b rest x := by
  have each : ∀ x ∈ places, impl_takeName.f (k + 1) b x = impl_takeName.f k b x := by
    intro x hx
    obtain ⟨t, ht⟩ := Option.isSome_iff_exists.1 (List.all_eq_true.1 h x hx)
    rw [ht]
    exact impl_takeName.mono _ _ _ _ ht
  refine ⟨List.all_eq_true.2 fun x hx => ?_, fun x hx => ?_⟩
  · rw [each x hx]
    exact List.all_eq_true.1 h x hx
  · unfold putP
    rw [each x hx]
theorem idxP_congr {α : Type} (p q : α → Bool) : ∀ (xs : List α) (i : Int), (∀ x ∈ xs, p x = q x) → idxP p xs i = idxP q xs i
  | [], i, _ => rfl
  | x :: xs, i, h => by
    unfold idxP
    rw [h x List.mem_cons_self, idxP_congr p q xs (i + 1) fun y hy => h y (List.mem_cons_of_mem _ hy)]
theorem impl_putName.mono_l : ∀ (k : Nat) (b : ByteArray) (places : List Int) (ahead rest : ByteArray), LeO (impl_putName.l0 k b places ahead rest) (impl_putName.l0 (k + 1) b places ahead rest)
  | 0, b, places, ahead, rest => fun r h => by simp [impl_putName.l0] at h
  | k + 1, b, places, ahead, rest => by
    intro r h
    conv => lhs; unfold impl_putName.l0
    conv at h => lhs; unfold impl_putName.l0
    by_cases c1 : rest.toList = ([] : List UInt8)
    · rw [if_pos c1] at h ⊢
      exact h
    · rw [if_neg c1] at h ⊢
      by_cases c2 : putDef k b places = true
      · obtain ⟨d1, d2⟩ := putDef_more c2 rest
        rw [if_pos c2] at h
        rw [if_pos d1, idxP_congr _ _ places 0 d2]
        by_cases c3 : 0 ≤ idxP (putP k b rest) places 0
        · rw [if_pos c3] at h ⊢
          exact h
        · rw [if_neg c3] at h ⊢
          obtain ⟨c, hc, h⟩ := Option.bind_eq_some_iff.mp h
          rw [hc, Option.bind_some]
          by_cases c4 : ahead.size + c.1.size < 1099511627776
          · rw [if_pos c4] at h ⊢
            obtain ⟨p, hp, h⟩ := Option.bind_eq_some_iff.mp h
            rw [hp, Option.bind_some]
            exact impl_putName.mono_l k b places _ p r h
          · rw [if_neg c4] at h
            cases h
      · rw [if_neg c2] at h
        cases h
theorem impl_putName.mono : ∀ a0 a1 k, LeO (impl_putName.f k a0 a1) (impl_putName.f (k + 1) a0 a1) := by
  intro a0 a1 k r h
  unfold impl_putName.f at h ⊢
  obtain ⟨p, hp, h⟩ := Option.bind_eq_some_iff.mp h
  rw [impl_suffixesOf.mono _ _ _ hp, Option.bind_some]
  exact impl_putName.mono_l k a0 p _ a1 r h
theorem impl_putName.calls (k : Nat) (a0 : ByteArray) (a1 : ByteArray) (r : ByteArray) (w : World) (h : impl_putName.f k a0 a1 = some r) :
    Calls Tryd.prog 49 #[.string a0, .string a1] w fun e w' => e = .returned (.string r) ∧ Below w.heap.size w w' := by
  unfold impl_putName.f at h
  obtain ⟨p, hp, h⟩ := Option.bind_eq_some_iff.mp h
  exact put_walk k a0 a1 p r w hp h
end Go.Proofs.YtomcfhbmdoomlaaDoor.P
