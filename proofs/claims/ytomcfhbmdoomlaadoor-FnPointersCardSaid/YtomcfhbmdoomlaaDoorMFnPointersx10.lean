/- FnPointers: part 11 of 27 of my texts for this claim, joined; the theorem stands in the last. Conditions: none beyond the statement's. -/
import Derived.Test.YtomcfhbmdoomlaaDoorMFnPointersx2
import Derived.Test.YtomcfhbmdoomlaaDoorMFnPointersx9
import Derived.Test.YtomcfhbmdoomlaaDoorMFnPointersx6
import Derived.Test.YtomcfhbmdoomlaaDoorMFnPointersx4
import Derived.Test.YtomcfhbmdoomlaaDoorMFnPointersx5
-- F68
-- By my own call of the kit's print (wip/tools/pp.py).
namespace Go.Proofs.YtomcfhbmdoomlaaDoor.P
open Go.RowKit Go.Proofs.YtomcfhbmdoomlaaDoorW.PrintWords Go.Proofs.YtomcfhbmdoomlaaDoorW.PrintLast Go.Proofs.YtomcfhbmdoomlaaDoorW.PrintMore
attribute [local go_sem] max2_int min2_int max_two min_two max_three min_three max_four min_four
set_option linter.unusedVariables false
set_option linter.unusedSimpArgs false

/-! ### spec_l1Parent: function 68 -/
def spec_l1Parent.l0 : Nat → ByteArray → Int → Option (ByteArray)
  | 0, _, _ => none
  | k + 1, x0, x3 => if x3 < (x0.size : Int) then (if 0 ≤ x3 then (if (bt x0 x3) = 46 then (if 0 ≤ (wrap64 (x3 + 1)) then (if (wrap64 (x3 + 1)) ≤ (x0.size : Int) then (some (x0.extract ((wrap64 (x3 + 1)) : Int).toNat x0.size)) else (none)) else (none)) else (spec_l1Parent.l0 k x0 (wrap64 (x3 + 1)))) else (none)) else (some (⟨#[]⟩ : ByteArray))
def spec_l1Parent.f (k : Nat) (a0 : ByteArray) : Option (ByteArray) := spec_l1Parent.l0 k a0 0
theorem spec_l1Parent.mono_l : ∀ k, (∀ y0 y1, LeO (spec_l1Parent.l0 k y0 y1) (spec_l1Parent.l0 (k + 1) y0 y1))
  | 0 => fun _ _ r h => by simp [spec_l1Parent.l0] at h
  | k + 1 => by
    have ih0 := spec_l1Parent.mono_l k
    · intro y0 y1
      unfold spec_l1Parent.l0
      repeat' first
      | (with_reducible exact ih0 _ _)
      | (with_reducible exact LeO.refl _)
      | (with_reducible exact LeO.none _)
      | (with_reducible refine LeO.ite ?_ ?_)
      | (with_reducible refine LeO.bind ?_ (fun _ => ?_))
      | exact ih0 _ _
      | exact LeO.none _
      | refine LeO.ite ?_ ?_
      | refine LeO.bind ?_ (fun _ => ?_)
theorem spec_l1Parent.mono : ∀ a0 k, LeO (spec_l1Parent.f k a0) (spec_l1Parent.f (k + 1) a0) := by
  intro a0 k
  have ih0 := spec_l1Parent.mono_l k
  unfold spec_l1Parent.f
  repeat' first
      | (with_reducible exact ih0 _ _)
      | (with_reducible exact LeO.refl _)
      | (with_reducible exact LeO.none _)
      | (with_reducible refine LeO.ite ?_ ?_)
      | (with_reducible refine LeO.bind ?_ (fun _ => ?_))
      | exact ih0 _ _
      | exact LeO.none _
      | refine LeO.ite ?_ ?_
      | refine LeO.bind ?_ (fun _ => ?_)
set_option maxHeartbeats 8000000 in
set_option maxRecDepth 100000 in
theorem spec_l1Parent.calls (k : Nat) (a0 : ByteArray) (r : ByteArray) (w : World) (h : spec_l1Parent.f k a0 = some r) :
    Calls Tryd.prog 68 #[.string a0] w fun e w' => e = .returned (.string r) ∧ Drawn0 w w' := by
  have H : (spec_l1Parent.l0 k a0 0) = some r := h
  clear h
  have H' := Aside0.mk H
  clear H
  go_enter Tryd.func68, Tryd.ntmps68
  go_wp2
  go_loopg [3] k (fun kq v3 w' => ∃ (x3_1 : Int), v3 = .int .i64 x3_1 ∧ Aside0 (spec_l1Parent.l0 kq a0 x3_1 = some r) ∧ Aside0 (kq ≤ k) ∧ Drawn0 w w')
  case atStart => exact ⟨(0), (by first | rfl | (simp; done) | (simp [*]; done)), H', ⟨Nat.le_refl _⟩, by repeat (first | exact Drawn0.refl _ | apply Drawn0.step)⟩
  case round =>
    clear H'
    obtain ⟨x3_1, rfl, HA, HK1, ⟨m1, rfl⟩⟩ := hrel
    cases gk with
    | zero => exact absurd HA.out (by simp [spec_l1Parent.l0])
    | succ k1 =>
      have H := HA.out
      clear HA
      simp only [spec_l1Parent.l0] at H
      by_cases c2 : x3_1 < (a0.size : Int)
      · rw [if_pos c2] at H
        have c2b0 : decide (x3_1 < (a0.size : Int)) = true := decide_eq_true c2
        clear c2
        by_cases c3 : 0 ≤ x3_1
        · rw [if_pos c3] at H
          have c3b0 : decide (0 ≤ x3_1) = true := decide_eq_true c3
          clear c3
          by_cases c5 : (bt a0 x3_1) = 46
          · rw [if_pos c5] at H
            have c5b0 : ((bt a0 x3_1) == 46) = true := beq_iff_eq.mpr c5
            have c5b1 : ((bt a0 x3_1) != 46) = false := bne_eq_false_iff_eq.mpr c5
            clear c5
            obtain ⟨ji6, hji6⟩ : ∃ j_ : Int, (wrap64 (x3_1 + 1)) = j_ := ⟨_, rfl⟩
            replace H : (if 0 ≤ (ji6) then (if (ji6) ≤ (a0.size : Int) then (some (a0.extract ((ji6) : Int).toNat a0.size)) else (none)) else (none)) = some r := by first | (rw [hji6] at H; exact H) | (simp only [hji6] at H ⊢; exact H)
            have hji6w : (IntKind.i64.wrap (x3_1 + 1)) = ji6 := (i64_w _).trans hji6
            by_cases c7 : 0 ≤ (ji6)
            · rw [if_pos c7] at H
              have c7b0 := eq_true c7
              have c7b1 : decide (0 ≤ (ji6)) = true := decide_eq_true c7
              clear c7
              by_cases c8 : (ji6) ≤ (a0.size : Int)
              · rw [if_pos c8] at H
                have c8b0 := eq_true c8
                have c8b1 : decide ((ji6) ≤ (a0.size : Int)) = true := decide_eq_true c8
                clear c8
                obtain rfl := Option.some.inj H
                have p4 : 0 ≤ (x3_1 : Int) := of_decide_eq_true (by first | (with_reducible assumption) | assumption)
                have q4 : x3_1 < (a0.size : Int) := of_decide_eq_true (by first | (with_reducible assumption) | assumption)
                have hx4 := bt_at a0 x3_1
                replace p4 := eq_true p4
                replace q4 := eq_true q4
                go_wp2
                go_ret
                exact ⟨by first | rfl | (simp; done) | (simp only [← hji6] <;> (first | rfl | simp)) | (simp [*]; done), by repeat (first | exact Drawn0.refl _ | apply Drawn0.step)⟩
              · rw [if_neg c8] at H
                exact absurd H (by simp)
            · rw [if_neg c7] at H
              exact absurd H (by simp)
          · rw [if_neg c5] at H
            have c5b0 : ((bt a0 x3_1) == 46) = false := beq_eq_false_iff_ne.mpr c5
            have c5b1 : ((bt a0 x3_1) != 46) = true := bne_iff_ne.mpr c5
            have H' := Aside0.mk H
            clear H
            have p4 : 0 ≤ (x3_1 : Int) := of_decide_eq_true (by first | (with_reducible assumption) | assumption)
            have q4 : x3_1 < (a0.size : Int) := of_decide_eq_true (by first | (with_reducible assumption) | assumption)
            have hx4 := bt_at a0 x3_1
            replace p4 := eq_true p4
            replace q4 := eq_true q4
            go_wp2
            go_roundg k1
            case measure => have := HK1.out; omega
            case rel => exact ⟨(wrap64 (x3_1 + 1)), (by first | rfl | (simp; done) | (simp [*]; done)), H', ⟨by have := HK1.out; omega⟩, by repeat (first | exact Drawn0.refl _ | apply Drawn0.step)⟩
        · rw [if_neg c3] at H
          exact absurd H (by simp)
      · rw [if_neg c2] at H
        have c2b0 : decide (x3_1 < (a0.size : Int)) = false := decide_eq_false c2
        clear c2
        obtain rfl := Option.some.inj H
        go_wp2
        go_ret
        exact ⟨by first | rfl | (simp; done) | (simp [*]; done), by repeat (first | exact Drawn0.refl _ | apply Drawn0.step)⟩

end Go.Proofs.YtomcfhbmdoomlaaDoor.P

-- HL2Put
/- spec.l2Put: what it returns (as the print has it), and its walk by hand. Conditions: none. -/
namespace Go.Proofs.YtomcfhbmdoomlaaDoor.P
open Go.RowKit Go.Proofs.YtomcfhbmdoomlaaDoorW.PrintWords Go.Proofs.YtomcfhbmdoomlaaDoorW.PrintLast Go.Proofs.YtomcfhbmdoomlaaDoorW.PrintMore
attribute [local go_sem] max2_int min2_int max_two min_two max_three min_three max_four min_four
set_option linter.unusedVariables false
set_option linter.unusedSimpArgs false

/-! ### spec_l2Put: function 48 -/
mutual
def spec_l2Put.l0 : Nat → ByteArray → ByteArray → List Int → ByteArray → Option (ByteArray)
  | 0, _, _, _, _ => none
  | k + 1, x0, x1, x5, x6 => if x1.toList = ([] : List UInt8) then (if x0.size + x6.size ≤ 9223372036854775807 then (if (x0 ++ x6).size + 1 ≤ 9223372036854775807 then (some ((x0 ++ x6) ++ (⟨#[0]⟩ : ByteArray))) else (none)) else (none)) else (spec_l2Put.l1 k x0 x1 x5 x6 x5 (x5.length : Int) 0)
def spec_l2Put.l1 : Nat → ByteArray → ByteArray → List Int → ByteArray → List Int → Int → Int → Option (ByteArray)
  | 0, _, _, _, _, _, _, _ => none
  | k + 1, x0, x1, x5, x6, x19, x20, x21 => if x21 < x20 then (if 0 ≤ x21 then (if x21 < (x19.length : Int) then ((spec_l2Take.f k x0 (rd x19 x21)).bind fun bt285 => (if bt285.2.2.2 = true then (if bt285.1.toList = x1.toList then (if x0.size + x6.size ≤ 9223372036854775807 then ((some (([(wrap64 (192 + (wrap64 (Int.tdiv (rd x19 x21) 256)))) % 256, (rd x19 x21) % 256] : List Int) : List Int)).bind fun y291 => (if (x0 ++ x6).size + (strOfNums y291).size ≤ 9223372036854775807 then (some ((x0 ++ x6) ++ (strOfNums y291))) else (none))) else (none)) else (spec_l2Put.l1 k x0 x1 x5 x6 x19 x20 (wrap64 (x21 + 1)))) else (spec_l2Put.l1 k x0 x1 x5 x6 x19 x20 (wrap64 (x21 + 1))))) else (none)) else (none)) else ((spec_l1Labels.f k x1).bind fun bt294 => (if 0 < (bt294.1.length : Int) then ((some (([(((rdOf ByteArray.empty bt294.1 0).size : Int)) % 256] : List Int) : List Int)).bind fun y299 => (if (strOfNums y299).size + (rdOf ByteArray.empty bt294.1 0).size ≤ 9223372036854775807 then (if x6.size + ((strOfNums y299) ++ (rdOf ByteArray.empty bt294.1 0)).size ≤ 9223372036854775807 then ((spec_l1Parent.f k x1).bind fun t303 => (spec_l2Put.l0 k x0 t303 x5 (x6 ++ ((strOfNums y299) ++ (rdOf ByteArray.empty bt294.1 0))))) else (none)) else (none))) else (none)))
end
def spec_l2Put.f (k : Nat) (a0 : ByteArray) (a1 : ByteArray) : Option (ByteArray) := (spec_l2Suffixes.f k a0).bind fun t281 => (spec_l2Put.l0 k a0 a1 t281 (⟨#[]⟩ : ByteArray))
theorem spec_l2Put.mono_l : ∀ k, (∀ y0 y1 y2 y3, LeO (spec_l2Put.l0 k y0 y1 y2 y3) (spec_l2Put.l0 (k + 1) y0 y1 y2 y3)) ∧ (∀ y0 y1 y2 y3 y4 y5 y6, LeO (spec_l2Put.l1 k y0 y1 y2 y3 y4 y5 y6) (spec_l2Put.l1 (k + 1) y0 y1 y2 y3 y4 y5 y6))
  | 0 => ⟨fun _ _ _ _ r h => by simp [spec_l2Put.l0] at h, fun _ _ _ _ _ _ _ r h => by simp [spec_l2Put.l1] at h⟩
  | k + 1 => by
    obtain ⟨ih0, ih1⟩ := spec_l2Put.mono_l k
    refine ⟨?_, ?_⟩
    · intro y0 y1 y2 y3
      unfold spec_l2Put.l0
      repeat' first
      | (with_reducible exact ih0 _ _ _ _)
      | (with_reducible exact ih1 _ _ _ _ _ _ _)
      | (with_reducible exact spec_l1Labels.mono _ _)
      | (with_reducible exact spec_l1Parent.mono _ _)
      | (with_reducible exact spec_l2Suffixes.mono _ _)
      | (with_reducible exact spec_l2Take.mono _ _ _)
      | (with_reducible exact LeO.refl _)
      | (with_reducible exact LeO.none _)
      | (with_reducible refine LeO.ite ?_ ?_)
      | (with_reducible refine LeO.bind ?_ (fun _ => ?_))
      | exact ih0 _ _ _ _
      | exact ih1 _ _ _ _ _ _ _
      | exact spec_l1Labels.mono _ _
      | exact spec_l1Parent.mono _ _
      | exact spec_l2Suffixes.mono _ _
      | exact spec_l2Take.mono _ _ _
      | exact LeO.none _
      | refine LeO.ite ?_ ?_
      | refine LeO.bind ?_ (fun _ => ?_)
    · intro y0 y1 y2 y3 y4 y5 y6
      unfold spec_l2Put.l1
      repeat' first
      | (with_reducible exact ih0 _ _ _ _)
      | (with_reducible exact ih1 _ _ _ _ _ _ _)
      | (with_reducible exact spec_l1Labels.mono _ _)
      | (with_reducible exact spec_l1Parent.mono _ _)
      | (with_reducible exact spec_l2Suffixes.mono _ _)
      | (with_reducible exact spec_l2Take.mono _ _ _)
      | (with_reducible exact LeO.refl _)
      | (with_reducible exact LeO.none _)
      | (with_reducible refine LeO.ite ?_ ?_)
      | (with_reducible refine LeO.bind ?_ (fun _ => ?_))
      | exact ih0 _ _ _ _
      | exact ih1 _ _ _ _ _ _ _
      | exact spec_l1Labels.mono _ _
      | exact spec_l1Parent.mono _ _
      | exact spec_l2Suffixes.mono _ _
      | exact spec_l2Take.mono _ _ _
      | exact LeO.none _
      | refine LeO.ite ?_ ?_
      | refine LeO.bind ?_ (fun _ => ?_)
theorem spec_l2Put.mono : ∀ a0 a1 k, LeO (spec_l2Put.f k a0 a1) (spec_l2Put.f (k + 1) a0 a1) := by
  intro a0 a1 k
  obtain ⟨ih0, ih1⟩ := spec_l2Put.mono_l k
  unfold spec_l2Put.f
  repeat' first
      | (with_reducible exact ih0 _ _ _ _)
      | (with_reducible exact ih1 _ _ _ _ _ _ _)
      | (with_reducible exact spec_l1Labels.mono _ _)
      | (with_reducible exact spec_l1Parent.mono _ _)
      | (with_reducible exact spec_l2Suffixes.mono _ _)
      | (with_reducible exact spec_l2Take.mono _ _ _)
      | (with_reducible exact LeO.refl _)
      | (with_reducible exact LeO.none _)
      | (with_reducible refine LeO.ite ?_ ?_)
      | (with_reducible refine LeO.bind ?_ (fun _ => ?_))
      | exact ih0 _ _ _ _
      | exact ih1 _ _ _ _ _ _ _
      | exact spec_l1Labels.mono _ _
      | exact spec_l1Parent.mono _ _
      | exact spec_l2Suffixes.mono _ _
      | exact spec_l2Take.mono _ _ _
      | exact LeO.none _
      | refine LeO.ite ?_ ?_
      | refine LeO.bind ?_ (fun _ => ?_)
set_option maxHeartbeats 8000000 in
set_option maxRecDepth 100000 in

theorem cell_two (w : World) (x0 x1 : Int) (t : TypeId) (j : Nat) (hj : j < 2) : (w.alloc (Obj.cells #[.int .u8 x0, .int .u8 x1] t)).cell? ((⟨w.heap.size, 0, none⟩ : Addr).add j) = some (.int .u8 (([x0, x1] : List Int).getD j 0)) := by
  rw [add_plain]
  unfold World.cell?
  rw [heap_alloc_new]
  rcases j with _ | _ | j
  · simp
  · simp
  · omega
set_option maxRecDepth 100000 in
set_option maxHeartbeats 4000000 in
theorem spec_l2Put.calls (k : Nat) (a0 : ByteArray) (a1 : ByteArray) (r : ByteArray) (w : World) (h : spec_l2Put.f k a0 a1 = some r) :
    Calls Tryd.prog 48 #[.string a0, .string a1] w fun e w' => e = .returned (.string r) ∧ Below w.heap.size w w' := by
  unfold spec_l2Put.f at h
  obtain ⟨places, hp, h⟩ := Option.bind_eq_some_iff.mp h
  have sc := fun W => spec_l2Suffixes.calls k a0 places W hp
  have H' := Aside0.mk h
  clear h
  go_enter Tryd.func48, Tryd.ntmps48
  go_wp2_with (go_at_call 43; refine (sc _).mono ?_; rintro e w1 ⟨v, rfl, hR, hbw⟩; have HO := Aside0.mk hR; have HB1 := Aside0.mk hbw; clear hR hbw; obtain ⟨A, c, rfl⟩ := Kd.R_slice HO.out)
  go_loopg [1, 6] k (fun kq v1 v6 wr => ∃ (rest head : ByteArray), v1 = .string rest ∧ v6 = .string head ∧ Aside0 (spec_l2Put.l0 kq a0 rest places head = some r) ∧ Aside0 (kq ≤ k) ∧ Aside0 (Kd.C (Kd.int .i64) wr A places.length places) ∧ Aside0 (Below w.heap.size w wr))
  case atStart => exact ⟨a1, (⟨#[]⟩ : ByteArray), rfl, rfl, H', ⟨Nat.le_refl _⟩, ⟨(Kd.R_reads' HO.out).2.2⟩, HB1⟩
  case round =>
    obtain ⟨rest, head, rfl, rfl, HA, HK1, HC, BW⟩ := hrel
    cases gk with
    | zero => exact absurd HA.out (by simp [spec_l2Put.l0])
    | succ k1 =>
      have H := HA.out
      clear HA
      simp only [spec_l2Put.l0] at H
      by_cases c1 : rest.toList = ([] : List UInt8)
      · rw [if_pos c1] at H
        have c1b : (rest.toList == ([] : List UInt8)) = true := by rw [c1]; rfl
        have c1c : (rest.toList != ([] : List UInt8)) = false := by rw [c1]; rfl
        by_cases c4 : a0.size + head.size ≤ 9223372036854775807
        · rw [if_pos c4] at H
          by_cases c5 : (a0 ++ head).size + 1 ≤ 9223372036854775807
          · rw [if_pos c5] at H
            have c4a := eq_true c4
            have c4c : (9223372036854775807 < a0.size + head.size) = False := eq_false (by omega)
            have hbs : (a0 ++ head).size = a0.size + head.size := ByteArray.size_append
            rw [hbs] at c5
            have c6a := eq_true c5
            have c6c : (9223372036854775807 < a0.size + head.size + 1) = False := eq_false (by omega)
            clear hbs
            go_wp2
            go_ret
            obtain rfl := Option.some.inj H
            exact ⟨rfl, BW.out⟩
          · rw [if_neg c5] at H; cases H
        · rw [if_neg c4] at H; cases H
      · rw [if_neg c1] at H
        have c1b : (rest.toList == ([] : List UInt8)) = false := beq_eq_false_iff_ne.mpr c1
        have c1c : (rest.toList != ([] : List UInt8)) = true := by rw [bne, c1b]; rfl
        have HI := Aside0.mk H
        clear H
        go_wp2
        go_loopg [21] k1 (fun kq v21 wi => ∃ (x : Int), v21 = .int .i64 x ∧ Aside0 (spec_l2Put.l1 kq a0 rest places head places (places.length : Int) x = some r) ∧ Aside0 (kq ≤ k1) ∧ Aside0 (Kd.C (Kd.int .i64) wi A places.length places) ∧ Aside0 (Below w.heap.size w wi))
        case atStart => exact ⟨0, rfl, HI, ⟨Nat.le_refl _⟩, HC, BW⟩
        case round =>
          clear HI HC BW
          obtain ⟨x, rfl, HA, HK2, HC, BW⟩ := hrel
          cases gk with
          | zero => exact absurd HA.out (by simp [spec_l2Put.l1])
          | succ k2 =>
            have H := HA.out
            clear HA
            simp only [spec_l2Put.l1] at H
            by_cases c7 : x < (places.length : Int)
            · rw [if_pos c7] at H
              have c7b : decide (x < (places.length : Int)) = true := decide_eq_true c7
              by_cases c8 : 0 ≤ x
              · rw [if_pos c8, if_pos c7] at H
                obtain ⟨⟨t1, t2, t3, t4⟩, ht, H⟩ := Option.bind_eq_some_iff.mp H
                replace H := H
                have tc := fun W => spec_l2Take.calls k2 a0 (rd places x) t1 t2 t3 t4 W ht
                obtain ⟨ad, e0, hx⟩ := Kd.at_int HC.out x c8 c7
                cases e0
                have c7z := eq_true c7
                have c8z := eq_true c8
                generalize rd places x = pv at H tc hx
                have HN := Aside0.mk H
                clear H
                cases t4 with
                | false =>
                  have HN2 : Aside0 (spec_l2Put.l1 k2 a0 rest places head places (places.length : Int) (wrap64 (x + 1)) = some r) := ⟨by have := HN.out; simpa using this⟩
                  clear HN
                  go_wp2_with (go_at_call 40; refine (tc _).mono ?_; rintro e w2 ⟨v, rfl, hR2, hb2⟩)
                  go_roundg k2
                  case measure => have := HK2.out; omega
                  case rel => exact ⟨wrap64 (x + 1), rfl, HN2, ⟨by have := HK2.out; omega⟩, ⟨Kd.C_below HC.out hb2⟩, ⟨below_then BW.out BW.out.size hb2⟩⟩
                | true =>
                  by_cases c9 : t1.toList = rest.toList
                  · have c9b : (t1.toList == rest.toList) = true := beq_iff_eq.mpr c9
                    have HE := HN.out
                    rw [if_pos rfl, if_pos c9] at HE
                    clear HN
                    by_cases c10 : a0.size + head.size ≤ 9223372036854775807
                    · rw [if_pos c10] at HE
                      have c10a := eq_true c10
                      have c10c : (9223372036854775807 < a0.size + head.size) = False := eq_false (by omega)
                      have hcv0 := fun W : World => string_of_reads (P := Tryd.prog) (src := 44) (dst := 9) (c := 2) (w := W.alloc (Obj.cells #[.int .u8 ((wrap64 (192 + (wrap64 (Int.tdiv pv 256)))) % 256), .int .u8 (pv % 256)] 5)) (A := some ⟨W.heap.size, 0, none⟩) (n := 2) (xs := [(wrap64 (192 + (wrap64 (Int.tdiv pv 256)))) % 256, pv % 256]) Tryd.underlying44 Tryd.underlying5 Tryd.underlying9 ⟨rfl, by omega, fun _ => ⟨_, rfl, fun j hj => cell_two W _ _ _ j hj⟩⟩
                      replace HE : (if (a0 ++ head).size + (strOfNums [(wrap64 (192 + (wrap64 (Int.tdiv pv 256)))) % 256, pv % 256]).size ≤ 9223372036854775807 then some ((a0 ++ head) ++ strOfNums [(wrap64 (192 + (wrap64 (Int.tdiv pv 256)))) % 256, pv % 256]) else none) = some r := HE
                      generalize strOfNums [(wrap64 (192 + (wrap64 (Int.tdiv pv 256)))) % 256, pv % 256] = sb at HE hcv0
                      by_cases c11 : (a0 ++ head).size + sb.size ≤ 9223372036854775807
                      · rw [if_pos c11] at HE
                        rw [ByteArray.size_append] at c11
                        have c11a := eq_true c11
                        have c11c : (9223372036854775807 < a0.size + head.size + sb.size) = False := eq_false (by omega)
                        obtain rfl := Option.some.inj HE
                        clear HE
                        go_wp2_with (go_at_call 40; refine (tc _).mono ?_; rintro e w2 ⟨v, rfl, hR2, hb2⟩; have hcv := hcv0 w2)
                        go_ret
                        exact ⟨rfl, below_alloc (below_then BW.out BW.out.size hb2) _⟩
                      · rw [if_neg c11] at HE; cases HE
                    · rw [if_neg c10] at HE; cases HE
                  · have c9b : (t1.toList == rest.toList) = false := beq_eq_false_iff_ne.mpr c9
                    have HN2 : Aside0 (spec_l2Put.l1 k2 a0 rest places head places (places.length : Int) (wrap64 (x + 1)) = some r) := ⟨by have := HN.out; simpa [c9] using this⟩
                    clear HN
                    go_wp2_with (go_at_call 40; refine (tc _).mono ?_; rintro e w2 ⟨v, rfl, hR2, hb2⟩)
                    go_roundg k2
                    case measure => have := HK2.out; omega
                    case rel => exact ⟨wrap64 (x + 1), rfl, HN2, ⟨by have := HK2.out; omega⟩, ⟨Kd.C_below HC.out hb2⟩, ⟨below_then BW.out BW.out.size hb2⟩⟩
              · rw [if_neg c8] at H; cases H
            · rw [if_neg c7] at H
              have c7b : decide (x < (places.length : Int)) = false := decide_eq_false c7
              have H2 := H
              clear H
              obtain ⟨⟨lab, lok⟩, hlab, H2⟩ := Option.bind_eq_some_iff.mp H2
              have lc := fun W => spec_l1Labels.calls k2 rest lab lok W hlab
              by_cases c12 : 0 < (lab.length : Int)
              · replace H2 : (if 0 < (lab.length : Int) then ((some (([(((rdOf ByteArray.empty lab 0).size : Int)) % 256] : List Int) : List Int)).bind fun y299 => (if (strOfNums y299).size + (rdOf ByteArray.empty lab 0).size ≤ 9223372036854775807 then (if head.size + ((strOfNums y299) ++ (rdOf ByteArray.empty lab 0)).size ≤ 9223372036854775807 then ((spec_l1Parent.f k2 rest).bind fun t303 => (spec_l2Put.l0 k2 a0 t303 places (head ++ ((strOfNums y299) ++ (rdOf ByteArray.empty lab 0))))) else (none)) else (none))) else (none)) = some r := H2
                rw [if_pos c12] at H2
                obtain ⟨lab0, hl0⟩ : ∃ y, y = rdOf ByteArray.empty lab 0 := ⟨_, rfl⟩
                rw [← hl0] at H2
                replace H2 : (if (strOfNums [((lab0.size : Int)) % 256]).size + lab0.size ≤ 9223372036854775807 then (if head.size + ((strOfNums [((lab0.size : Int)) % 256]) ++ lab0).size ≤ 9223372036854775807 then ((spec_l1Parent.f k2 rest).bind fun t303 => (spec_l2Put.l0 k2 a0 t303 places (head ++ ((strOfNums [((lab0.size : Int)) % 256]) ++ lab0)))) else (none)) else (none)) = some r := H2
                obtain ⟨y, hy⟩ : ∃ y : List Int, y = [((lab0.size : Int)) % 256] := ⟨_, rfl⟩
                rw [← hy] at H2
                have Ny := Aside0.mk hy
                clear hy
                by_cases c13 : (strOfNums y).size + lab0.size ≤ 9223372036854775807
                · rw [if_pos c13, ByteArray.size_append] at H2
                  by_cases c14 : head.size + ((strOfNums y).size + lab0.size) ≤ 9223372036854775807
                  · rw [if_pos c14] at H2
                    obtain ⟨par, hpar, H2⟩ := Option.bind_eq_some_iff.mp H2
                    have pc := fun W => spec_l1Parent.calls k2 rest par W hpar
                    have HN := Aside0.mk H2
                    clear H2
                    have c13a := eq_true c13
                    have c13c : (9223372036854775807 < (strOfNums y).size + lab0.size) = False := eq_false (by omega)
                    have c14a := eq_true c14
                    have c14c : (9223372036854775807 < head.size + ((strOfNums y).size + lab0.size)) = False := eq_false (by omega)
                    have c12z := eq_true (show 0 < lab.length by omega)
                    have HL0 := Aside0.mk hl0
                    clear hl0
                    go_wp2_with (go_at_call 67; refine (lc _).mono ?_; rintro e w2 ⟨v, rfl, hR2, hb2⟩; obtain ⟨A2, cL, rfl⟩ := Kd.R_slice hR2)
                    obtain ⟨ad, e0, hx⟩ := Kd.at_string (Kd.R_reads' hR2).2.2 0 (Int.le_refl 0) c12
                    cases e0
                    rw [← HL0.out] at hx
                    replace hx : w2.cell? ad = some (.string lab0) := by have := hx; rwa [show ((0 : Int)).toNat = 0 from rfl, Addr.add_zero'] at this
                    have HC3 := Aside0.mk (Kd.C_below HC.out hb2)
                    have BW3 := Aside0.mk (below_then BW.out BW.out.size hb2)
                    clear hR2 hb2
                    have BW3 := Aside0.mk (below_drew1 BW3.out)
                    have HC3 := Aside0.mk (Kd.C_below HC3.out (below_drew1 (Below.refl _ _)))
                    refine start_ (n := 14) (S := fun w' => w'.cell? ad = some (.string lab0)) (ds := []) #[false, false, false, false, false, false, false, false, false, false, false, false, false, false] (by kernel_rfl) rfl rfl (hx) (fun hHeld => ?_)
                    generalize hw3 : w2.drew = w3 at BW3 HC3 hx hHeld ⊢
                    refine pure_ (i := 0) (N := some 57) (v := ?_) (a' := ?_) #[true, false, false, false, false, false, false, false, false, false, false, false, false, false] rfl rfl (by kernel_rfl) (fun _ _ _ h => h) (Or.inl ⟨by rfl, ?_⟩) ?_ ?_
                    rotate_left
                    · intro w'
                      go_simp
                      with_reducible rfl
                    rotate_left
                    · simp only [Act.put, List.setIfInBounds_toArray, List.set_cons_zero, List.set_cons_succ, i64_w, i32_w]
                      rfl
                    refine pure_ (i := 1) (N := some 58) (v := ?_) (a' := ?_) #[true, true, false, false, false, false, false, false, false, false, false, false, false, false] rfl rfl (by kernel_rfl) (fun _ _ _ h => h) (Or.inl ⟨by rfl, ?_⟩) ?_ ?_
                    rotate_left
                    · intro w'
                      go_simp
                      with_reducible rfl
                    rotate_left
                    · simp only [Act.put, List.setIfInBounds_toArray, List.set_cons_zero, List.set_cons_succ, i64_w, i32_w]
                      rfl
                    refine pure_ (i := 2) (N := some 59) (v := ?_) (a' := ?_) #[true, true, true, false, false, false, false, false, false, false, false, false, false, false] rfl rfl (by kernel_rfl) (fun _ _ _ h => h) (Or.inl ⟨by rfl, ?_⟩) ?_ ?_
                    rotate_left
                    · intro w'
                      go_simp
                      with_reducible rfl
                    rotate_left
                    · simp only [Act.put, List.setIfInBounds_toArray, List.set_cons_zero, List.set_cons_succ, i64_w, i32_w]
                      rfl
                    refine pure_ (i := 8) (N := some 65) (v := ?_) (a' := ?_) #[true, true, true, false, false, false, false, false, true, false, false, false, false, false] rfl rfl (by kernel_rfl) (fun _ _ _ h => h) (Or.inl ⟨by rfl, ?_⟩) ?_ ?_
                    rotate_left
                    · intro w'
                      go_simp
                      with_reducible rfl
                    rotate_left
                    · simp only [Act.put, List.setIfInBounds_toArray, List.set_cons_zero, List.set_cons_succ, i64_w, i32_w]
                      rfl
                    refine pure_ (i := 9) (N := some 66) (v := ?_) (a' := ?_) #[true, true, true, false, false, false, false, false, true, true, false, false, false, false] rfl rfl (by kernel_rfl) (fun _ _ _ h => h) (Or.inl ⟨by rfl, ?_⟩) ?_ ?_
                    rotate_left
                    · intro w'
                      go_simp
                      with_reducible rfl
                    rotate_left
                    · simp only [Act.put, List.setIfInBounds_toArray, List.set_cons_zero, List.set_cons_succ, i64_w, i32_w]
                      rfl
                    refine take_ (i := 3) (N := some 60) (v := ?_) (a' := ?_) #[true, true, true, true, false, false, false, false, true, true, false, false, false, false] rfl rfl (by kernel_rfl) (fun _ _ _ h => h) (Or.inl ⟨by rfl, ?_⟩) hHeld ?_ ?_
                    rotate_left
                    · intro w' s0
                      go_simp
                      with_reducible rfl
                    rotate_left
                    · simp only [Act.put, List.setIfInBounds_toArray, List.set_cons_zero, List.set_cons_succ, i64_w, i32_w]
                      rfl
                    refine pure_ (i := 4) (N := some 61) (v := ?_) (a' := ?_) #[true, true, true, true, true, false, false, false, true, true, false, false, false, false] rfl rfl (by kernel_rfl) (fun _ _ _ h => h) (Or.inl ⟨by rfl, ?_⟩) ?_ ?_
                    rotate_left
                    · intro w'
                      go_simp
                      with_reducible rfl
                    rotate_left
                    · simp only [Act.put, List.setIfInBounds_toArray, List.set_cons_zero, List.set_cons_succ, i64_w, i32_w]
                      rfl
                    refine pure_ (i := 5) (N := some 62) (v := ?_) (a' := ?_) #[true, true, true, true, true, true, false, false, true, true, false, false, false, false] rfl rfl (by kernel_rfl) (fun _ _ _ h => h) (Or.inl ⟨by rfl, ?_⟩) ?_ ?_
                    rotate_left
                    · intro w'
                      go_simp
                      with_reducible rfl
                    rotate_left
                    · simp only [Act.put, List.setIfInBounds_toArray, List.set_cons_zero, List.set_cons_succ, i64_w, i32_w]
                      rfl
                    refine take_ (i := 10) (N := some 67) (v := ?_) (a' := ?_) #[true, true, true, true, true, true, false, false, true, true, true, false, false, false] rfl rfl (by kernel_rfl) (fun _ _ _ h => h) (Or.inl ⟨by rfl, ?_⟩) hHeld ?_ ?_
                    rotate_left
                    · intro w' s0
                      go_simp
                      with_reducible rfl
                    rotate_left
                    · simp only [Act.put, List.setIfInBounds_toArray, List.set_cons_zero, List.set_cons_succ, i64_w, i32_w]
                      rfl
                    refine one_ (i := 6) (N := some 63) #[true, true, true, true, true, true, true, false, true, true, true, false, false, false] rfl rfl (by kernel_rfl) (by decide) (fun K hK => ?_)
                    refine Kd.R_lit_step (Kd.int .u8) _ 5 ?hg (N := 63) ?hd (xs := ([((lab0.size : Int)) % 256] : List Int)) (inner := [.int .u8 (((lab0.size : Int)) % 256)]) (ok := fun _ => True) (okp := fun _ => True) ?hr ?hp (fun _ hk => hk) trivial (Below.refl _ _) (Nat.le_refl _) (by simp) ?_; (case hd => rfl); (case hg => rfl); (case hr => first | (go_simp; done) | (go_simp; rfl)); (case hp => exact (Reps.one (show Kd.M (Kd.int .u8) _ _ _ (((lab0.size : Int)) % 256) [.int .u8 (((lab0.size : Int)) % 256)] from rfl) (Reps.none _ _)))
                    intro vL wL hoL hb hg_ hnew_
                    have HS0_ := (hb.cell (World.block_lt_of_cell? _ _ (hHeld))).trans (hHeld)
                    (first | rw [← Ny.out] at hoL | (simp only [Int.reduceToNat] at hoL; rw [← Ny.out] at hoL)); have HLIT := Aside0.mk hoL
                    have n4_ := Aside0.mk (below_step BW3.out hb)
                    clear BW3
                    have BW3 := n4_
                    have n5_ := Aside0.mk (Kd.C_below HC3.out hb)
                    clear HC3
                    have HC3 := n5_
                    clear n4_ n5_ hg_ hnew_ hb hoL
                    refine hK.out _ _ (HS0_) (fun hHeld => ?_)
                    clear hK K
                    refine norm_ (a' := ?_) ?_ ?_
                    rotate_left
                    · show Act.put _ (some 63) _ = _
                      simp only [Act.put, List.setIfInBounds_toArray, List.set_cons_zero, List.set_cons_succ, i64_w, i32_w]
                      rfl
                    refine one_ (i := 7) (N := some 64) #[true, true, true, true, true, true, true, true, true, true, true, false, false, false] rfl rfl (by kernel_rfl) (by decide) (fun K hK => ?_)
                    have hcvL := own_string (P := Tryd.prog) Tryd.underlying44 Tryd.underlying5 Tryd.underlying9 (Kd.own_of_R HLIT.out)
                    refine value_ (w1 := ?_) (v := ?_) (by rfl) rfl ?_ ?_
                    rotate_left 2
                    · go_simp
                      constructor
                      · rfl
                      · rfl
                    clear hcvL
                    refine hK.out _ _ (hHeld) (fun hHeld => ?_)
                    clear hK K
                    refine norm_ (a' := ?_) ?_ ?_
                    rotate_left
                    · show Act.put _ (some 64) _ = _
                      simp only [Act.put, List.setIfInBounds_toArray, List.set_cons_zero, List.set_cons_succ, i64_w, i32_w]
                      rfl
                    refine pure_ (i := 11) (N := some 68) (v := ?_) (a' := ?_) #[true, true, true, true, true, true, true, true, true, true, true, true, false, false] rfl rfl (by kernel_rfl) (fun _ _ _ h => h) (Or.inl ⟨by rfl, ?_⟩) ?_ ?_
                    rotate_left
                    · intro w'
                      go_simp
                      with_reducible rfl
                    rotate_left
                    · simp only [Act.put, List.setIfInBounds_toArray, List.set_cons_zero, List.set_cons_succ, i64_w, i32_w]
                      rfl
                    refine pure_ (i := 12) (N := some 69) (v := ?_) (a' := ?_) #[true, true, true, true, true, true, true, true, true, true, true, true, true, false] rfl rfl (by kernel_rfl) (fun _ _ _ h => h) (Or.inl ⟨by rfl, ?_⟩) ?_ ?_
                    rotate_left
                    · intro w'
                      go_simp
                      with_reducible rfl
                    rotate_left
                    · simp only [Act.put, List.setIfInBounds_toArray, List.set_cons_zero, List.set_cons_succ, i64_w, i32_w]
                      rfl
                    refine pure_ (i := 13) (N := some 6) (v := ?_) (a' := ?_) #[true, true, true, true, true, true, true, true, true, true, true, true, true, true] rfl rfl (by kernel_rfl) (fun _ _ _ h => h) (Or.inl ⟨by rfl, ?_⟩) ?_ ?_
                    rotate_left
                    · intro w'
                      go_simp
                      with_reducible rfl
                    rotate_left
                    · simp only [Act.put, List.setIfInBounds_toArray, List.set_cons_zero, List.set_cons_succ, i64_w, i32_w]
                      rfl
                    refine done_ (by kernel_rfl) ?_
                    go_wp2_with (go_at_call 68; refine (pc _).mono ?_; rintro e w5_ ⟨rfl, ⟨nd5, rfl⟩⟩)
                    have bdn := pw_below_drewN (Below.refl wL.heap.size wL) nd5
                    go_roundg k2
                    case measure => have := HK1.out; have := HK2.out; omega
                    case rel => exact ⟨par, head ++ (strOfNums y ++ lab0), rfl, rfl, HN, ⟨by have := HK1.out; have := HK2.out; omega⟩, ⟨Kd.C_below HC3.out bdn⟩, ⟨below_then BW3.out BW3.out.size bdn⟩⟩
                  · rw [if_neg c14] at H2; cases H2
                · rw [if_neg c13] at H2; cases H2
              · replace H2 : (if 0 < (lab.length : Int) then _ else none) = some r := H2
                rw [if_neg c12] at H2
                cases H2
end Go.Proofs.YtomcfhbmdoomlaaDoor.P

-- F23
-- By my own call of the kit's print (wip/tools/pp.py).
namespace Go.Proofs.YtomcfhbmdoomlaaDoor.P
open Go.RowKit Go.Proofs.YtomcfhbmdoomlaaDoorW.PrintWords Go.Proofs.YtomcfhbmdoomlaaDoorW.PrintLast Go.Proofs.YtomcfhbmdoomlaaDoorW.PrintMore
attribute [local go_sem] max2_int min2_int max_two min_two max_three min_three max_four min_four
set_option linter.unusedVariables false
set_option linter.unusedSimpArgs false

/-! ### spec_PutName: function 23 -/
def spec_PutName.j0 : Nat → ByteArray → ByteArray → Bool → Option (ByteArray × Bool)
  | 0, _, _, _ => none
  | k + 1, x0, x1, x14 => if x14 = true then (some ((⟨#[]⟩ : ByteArray), false)) else ((spec_l2Put.f k x0 x1).bind fun t282 => (if (t282.size : Int) > 600 then (some ((⟨#[]⟩ : ByteArray), false)) else (some (t282, true))))
def spec_PutName.f (k : Nat) (a0 : ByteArray) (a1 : ByteArray) : Option (ByteArray × Bool) := if (a0.size : Int) > 600 then (spec_PutName.j0 k a0 a1 true) else ((spec_GoodName.f k a1).bind fun t281 => (spec_PutName.j0 k a0 a1 (!t281)))
theorem spec_PutName.mono_l : ∀ k, (∀ y0 y1 y2, LeO (spec_PutName.j0 k y0 y1 y2) (spec_PutName.j0 (k + 1) y0 y1 y2))
  | 0 => fun _ _ _ r h => by simp [spec_PutName.j0] at h
  | k + 1 => by
    have ih0 := spec_PutName.mono_l k
    · intro y0 y1 y2
      unfold spec_PutName.j0
      repeat' first
      | (with_reducible exact ih0 _ _ _)
      | (with_reducible exact spec_GoodName.mono _ _)
      | (with_reducible exact spec_l2Put.mono _ _ _)
      | (with_reducible exact LeO.refl _)
      | (with_reducible exact LeO.none _)
      | (with_reducible refine LeO.ite ?_ ?_)
      | (with_reducible refine LeO.bind ?_ (fun _ => ?_))
      | exact ih0 _ _ _
      | exact spec_GoodName.mono _ _
      | exact spec_l2Put.mono _ _ _
      | exact LeO.none _
      | refine LeO.ite ?_ ?_
      | refine LeO.bind ?_ (fun _ => ?_)
theorem spec_PutName.mono : ∀ a0 a1 k, LeO (spec_PutName.f k a0 a1) (spec_PutName.f (k + 1) a0 a1) := by
  intro a0 a1 k
  have ih0 := spec_PutName.mono_l k
  unfold spec_PutName.f
  repeat' first
      | (with_reducible exact ih0 _ _ _)
      | (with_reducible exact spec_GoodName.mono _ _)
      | (with_reducible exact spec_l2Put.mono _ _ _)
      | (with_reducible exact LeO.refl _)
      | (with_reducible exact LeO.none _)
      | (with_reducible refine LeO.ite ?_ ?_)
      | (with_reducible refine LeO.bind ?_ (fun _ => ?_))
      | exact ih0 _ _ _
      | exact spec_GoodName.mono _ _
      | exact spec_l2Put.mono _ _ _
      | exact LeO.none _
      | refine LeO.ite ?_ ?_
      | refine LeO.bind ?_ (fun _ => ?_)
set_option maxHeartbeats 8000000 in
set_option maxRecDepth 100000 in
theorem spec_PutName.calls (k : Nat) (a0 : ByteArray) (a1 : ByteArray) (r1 : ByteArray) (r2 : Bool) (w : World) (h : spec_PutName.f k a0 a1 = some (r1, r2)) :
    Calls Tryd.prog 23 #[.string a0, .string a1] w fun e w' => e = .returned (.tuple #[.string r1, .bool r2]) ∧ Below w.heap.size w w' := by
  have HB := Aside0.mk (Below.refl w.heap.size w)
  have H : (if (a0.size : Int) > 600 then (spec_PutName.j0 k a0 a1 true) else ((spec_GoodName.f k a1).bind fun t281 => (spec_PutName.j0 k a0 a1 (!t281)))) = some (r1, r2) := h
  clear h
  have HC3 := Aside0.mk H
  clear H
  go_enter Tryd.func23, Tryd.ntmps23
  go_upto_region 1 with (fail)
  go_cut [14] (fun v14 wc => ∃ (kq : Nat) (x14_2 : Bool), v14 = .bool x14_2 ∧ Aside0 (spec_PutName.j0 kq a0 a1 x14_2 = some (r1, r2)) ∧ Aside0 (kq ≤ k) ∧ Aside0 (Below w.heap.size w wc))
  case first =>
    have H := HC3.out
    clear HC3
    by_cases c4 : (a0.size : Int) > 600
    · rw [if_pos c4] at H
      have c4b0 : decide (600 < (a0.size : Int)) = true := decide_eq_true c4
      have c4b1 : decide (600 < a0.size) = true := decide_eq_true (by omega)
      clear c4
      (first | rw [c4b0] | (simp only [i64_w, i32_w]; rw [c4b0]) | skip)
      have H' := Aside0.mk H
      clear H
      go_wp2
      go_meet
      case rel => exact ⟨_, (true), (by first | rfl | (simp; done) | (simp [*]; done)), H', ⟨by first | omega | exact Nat.le_refl _⟩, ⟨by repeat (first | (with_reducible first | exact HB.out | apply below_alloc | apply pw_below_drewN | apply below_drew1) | exact HB.out)⟩⟩
    · rw [if_neg c4] at H
      have c4b0 : decide (600 < (a0.size : Int)) = false := decide_eq_false c4
      have c4b1 : decide (600 < a0.size) = false := decide_eq_false (by omega)
      clear c4
      (first | rw [c4b0] | (simp only [i64_w, i32_w]; rw [c4b0]) | skip)
      replace H := Option.bind_eq_some_iff.mp H
      obtain ⟨t281, A50, H⟩ := H
      replace H : (spec_PutName.j0 k a0 a1 (!t281)) = some (r1, r2) := H
      have A5 := Aside0.mk A50
      clear A50
      have H' := Aside0.mk H
      clear H
      go_wp2_with (first | (go_at_call 47; (with_reducible refine (spec_GoodName.calls k a1 t281 _ A5.out).mono ?_); rintro e w6 ⟨rfl, hb⟩; have n0_ := Aside0.mk (below_step (by repeat (first | (with_reducible first | exact HB.out | apply below_alloc | apply pw_below_drewN | apply below_drew1) | exact HB.out)) hb); clear HB; have HB := n0_; clear n0_; (try clear hb); (try clear hb2); (try clear hk); (try clear hi)))
      go_meet
      case rel => exact ⟨_, (!t281), (by first | rfl | (simp; done) | (simp [*]; done)), H', ⟨by first | omega | exact Nat.le_refl _⟩, ⟨by repeat (first | (with_reducible first | exact HB.out | apply below_alloc | apply pw_below_drewN | apply below_drew1) | exact HB.out)⟩⟩
  case rest =>
    clear HC3
    try clear c2
    try clear p2
    try clear c4
    try clear c4b0
    try clear c4b1
    obtain ⟨kq, x14_2, rfl, HA, HJ2, HB⟩ := hcut
    cases kq with
    | zero => exact absurd HA.out (by simp [spec_PutName.j0])
    | succ kj2 =>
      have H := HA.out
      clear HA
      simp only [spec_PutName.j0] at H
      by_cases c7 : x14_2 = true
      · subst c7
        have H1 : (some ((⟨#[]⟩ : ByteArray), false)) = some (r1, r2) := by rw [if_pos rfl] at H; exact H
        clear H
        have H := H1
        clear H1
        simp only [Option.some.injEq, Prod.mk.injEq] at H
        obtain ⟨rfl, rfl⟩ := H
        go_wp2
        go_ret2
        exact ⟨by first | rfl | (simp [errW_none, errW_some] <;> rfl) | (simp [*, errW_none, errW_some] <;> rfl), by repeat (first | (with_reducible first | exact HB.out | apply below_alloc | apply pw_below_drewN | apply below_drew1) | exact HB.out)⟩
      · replace c7 := Bool.eq_false_iff.mpr c7
        subst c7
        have H1 : ((spec_l2Put.f kj2 a0 a1).bind fun t282 => (if (t282.size : Int) > 600 then (some ((⟨#[]⟩ : ByteArray), false)) else (some (t282, true)))) = some (r1, r2) := by rw [if_neg (show ¬ (false = true) by decide)] at H; exact H
        clear H
        have H := H1
        clear H1
        replace H := Option.bind_eq_some_iff.mp H
        obtain ⟨t282, A80, H⟩ := H
        replace H : (if (t282.size : Int) > 600 then (some ((⟨#[]⟩ : ByteArray), false)) else (some (t282, true))) = some (r1, r2) := H
        have A8 := Aside0.mk A80
        clear A80
        by_cases c9 : (t282.size : Int) > 600
        · rw [if_pos c9] at H
          have c9b0 : decide (600 < (t282.size : Int)) = true := decide_eq_true c9
          have c9b1 : decide (600 < t282.size) = true := decide_eq_true (by omega)
          clear c9
          simp only [Option.some.injEq, Prod.mk.injEq] at H
          obtain ⟨rfl, rfl⟩ := H
          go_wp2_with (first | ((with_reducible refine gate_callee (f := 48) rfl ?_); refine goesL_ (some 17) rfl rfl Tryd.func48 (by kernel_rfl) rfl #[.string a0, .string a1] rfl (by (try simp only [List.map_toArray, List.map_cons, List.map_nil]); first | done | rfl | (simp only [List.length_drop, List.length_take]; rfl)) ?_; (with_reducible refine (spec_l2Put.calls kj2 a0 a1 t282 _ A8.out).mono ?_); rintro e w10 ⟨rfl, hb⟩; refine ⟨_, rfl, ?_⟩; have n0_ := Aside0.mk (below_step (by repeat (first | (with_reducible first | exact HB.out | apply below_alloc | apply pw_below_drewN | apply below_drew1) | exact HB.out)) hb); clear HB; have HB := n0_; clear n0_; (try clear hb); (try clear hb2); (try clear hk); (try clear hi)))
          go_ret2
          exact ⟨by first | rfl | (simp [errW_none, errW_some] <;> rfl) | (simp [*, errW_none, errW_some] <;> rfl), by repeat (first | (with_reducible first | exact HB.out | apply below_alloc | apply pw_below_drewN | apply below_drew1) | exact HB.out)⟩
        · rw [if_neg c9] at H
          have c9b0 : decide (600 < (t282.size : Int)) = false := decide_eq_false c9
          have c9b1 : decide (600 < t282.size) = false := decide_eq_false (by omega)
          clear c9
          simp only [Option.some.injEq, Prod.mk.injEq] at H
          obtain ⟨rfl, rfl⟩ := H
          go_wp2_with (first | ((with_reducible refine gate_callee (f := 48) rfl ?_); refine goesL_ (some 17) rfl rfl Tryd.func48 (by kernel_rfl) rfl #[.string a0, .string a1] rfl (by (try simp only [List.map_toArray, List.map_cons, List.map_nil]); first | done | rfl | (simp only [List.length_drop, List.length_take]; rfl)) ?_; (with_reducible refine (spec_l2Put.calls kj2 a0 a1 t282 _ A8.out).mono ?_); rintro e w11 ⟨rfl, hb⟩; refine ⟨_, rfl, ?_⟩; have n0_ := Aside0.mk (below_step (by repeat (first | (with_reducible first | exact HB.out | apply below_alloc | apply pw_below_drewN | apply below_drew1) | exact HB.out)) hb); clear HB; have HB := n0_; clear n0_; (try clear hb); (try clear hb2); (try clear hk); (try clear hi)))
          go_ret2
          exact ⟨by first | rfl | (simp [errW_none, errW_some] <;> rfl) | (simp [*, errW_none, errW_some] <;> rfl), by repeat (first | (with_reducible first | exact HB.out | apply below_alloc | apply pw_below_drewN | apply below_drew1) | exact HB.out)⟩

end Go.Proofs.YtomcfhbmdoomlaaDoor.P

-- HIdxInt
/- The walks of slices.IndexFunc and slices.ContainsFunc over a slice of integers. Conditions: none beyond the types. -/
namespace Go.Proofs.YtomcfhbmdoomlaaDoor.P
open Go.RowKit Go.Proofs.YtomcfhbmdoomlaaDoorW.PrintWords Go.Proofs.YtomcfhbmdoomlaaDoorW.PrintLast
set_option linter.unusedVariables false

set_option maxHeartbeats 2000000 in
theorem index_int (A : Option Addr) (c : Nat) (xs : List Int) (g : Nat) (cb : Array Value) (p : Int → Bool) (w : World) (hr : Kd.C (Kd.int .i64) w A xs.length xs)
    (eg : ∀ args w, (callFunc g args).run Tryd.prog w = .ok (.enter g args) w) (hp : PredB g cb (.int .i64) p xs w) :
    Calls Tryd.prog 70 #[.slice A xs.length c, .func (.func g) #[] cb] w fun e w' => e = .returned (.int .i64 (idxP p xs 0)) ∧ Below w.heap.size w w' := by
  have hbig : xs.length ≤ 9223372036854775807 := hr.2.1
  go_enter Tryd.func70, Tryd.ntmps70
  go_wp2
  go_loopg [5, 8] xs.length (fun gg _ s8 wr => ∃ kk : Nat, kk ≤ xs.length ∧ xs.length - kk ≤ gg ∧ s8 = .int .i64 kk ∧ Aside0 (Below w.heap.size w wr) ∧ Aside0 (∀ j y, j < kk → xs[j]? = some y → p y = false))
  case atStart => exact ⟨0, Nat.zero_le _, by omega, rfl, ⟨Below.refl _ w⟩, ⟨fun j y hj => absurd hj (Nat.not_lt_zero _)⟩⟩
  case round =>
    obtain ⟨kk, hkk, hg, rfl, BW, AA⟩ := hrel
    by_cases hlt : kk < xs.length
    · have hltz : (kk : Int) < (xs.length : Int) := by omega
      obtain ⟨ad, e0, hx⟩ := Kd.at_int hr (kk : Int) (by omega) hltz
      cases e0
      have l2 := (BW.out.cell (World.block_lt_of_cell? _ _ hx)).trans hx
      clear hx
      rw [Int.toNat_natCast] at l2
      have hmem : xs[kk]? = some (rd xs kk) := by
        rw [List.getElem?_eq_getElem hlt]; simp [rd, List.getElem?_eq_getElem hlt]
      have hcall := hp (rd xs kk) (List.mem_of_getElem? hmem) wr BW.out
      clear hp
      generalize hy : rd xs kk = y at l2 hcall hmem
      have B := Aside0.mk hmem
      clear hmem hy
      have hkn : ((kk : Int)).toNat = kk := by omega
      cases hq : p y with
      | true =>
        rw [hq] at hcall
        go_wp2_with (go_at_fn g; refine hcall.mono ?_; rintro e w' ⟨rfl, hb'⟩)
        go_ret
        refine ⟨?_, below_then BW.out BW.out.size hb'⟩
        rw [idxP_hit p xs 0 kk y B.out hq AA.out]
        simp
      | false =>
        rw [hq] at hcall
        go_wp2_with (go_at_fn g; refine hcall.mono ?_; rintro e w' ⟨rfl, hb'⟩)
        go_roundg (xs.length - (kk + 1))
        case measure => omega
        case rel =>
          refine ⟨kk + 1, by omega, by omega, by go_num, ⟨below_then BW.out BW.out.size hb'⟩, ⟨fun j z hj hz => ?_⟩⟩
          by_cases e : j = kk
          · subst e
            rw [B.out] at hz
            cases hz
            exact hq
          · exact AA.out j z (by omega) hz
    · have hltz : ¬ (kk : Int) < (xs.length : Int) := by omega
      have hm : idxP p xs 0 = -1 := idxP_miss p xs 0 (fun y hy => by obtain ⟨j, hj, e⟩ := List.mem_iff_getElem.1 hy; exact AA.out j y (by omega) (by rw [List.getElem?_eq_getElem hj, e]))
      have HM := Aside0.mk hm
      clear hm
      go_wp2
      go_ret
      exact ⟨by rw [HM.out]; rfl, BW.out⟩

end Go.Proofs.YtomcfhbmdoomlaaDoor.P
