/- FnExactPackedSize: part 10 of 27 of my texts for this claim, joined; the theorem stands in the last. Conditions: none beyond the statement's. -/
import Derived.Test.YtomcfhbmdoomlaaDoorMFnExactPackedSizex8
import Derived.Test.YtomcfhbmdoomlaaDoorMFnExactPackedSizex7
import Derived.Test.YtomcfhbmdoomlaaDoorMFnExactPackedSizex3
-- HL2Put
/- spec.l2Put: what it returns (as the print has it), and its walk by hand. Conditions: none. -/
namespace Go.Proofs.YtomcfhbmdoomlaaDoor.P
open Go.RowKit Go.Proofs.YtomcfhbmdoomlaaDoorW.PrintWords Go.Proofs.YtomcfhbmdoomlaaDoorW.PrintLast Go.Proofs.YtomcfhbmdoomlaaDoorW.PrintMore
attribute [local go_sem] max2_int min2_int max_two min_two max_three min_three max_four min_four
set_option linter.unusedVariables false
set_option linter.unusedSimpArgs false

/-! ### spec_l2Put: function 48 -/
mutual
def spec_l2Put.l0 : Nat → ByteArray → ByteArray → List Int → ByteArray → Option (ByteArray)
  | 0, _, _, _, _ => none
  | k + 1, x0, x1, x5, x6 => if x1.toList = ([] : List UInt8) then (if x0.size + x6.size ≤ 9223372036854775807 then (if (x0 ++ x6).size + 1 ≤ 9223372036854775807 then (some ((x0 ++ x6) ++ (⟨#[0]⟩ : ByteArray))) else (none)) else (none)) else (spec_l2Put.l1 k x0 x1 x5 x6 x5 (x5.length : Int) 0)
def spec_l2Put.l1 : Nat → ByteArray → ByteArray → List Int → ByteArray → List Int → Int → Int → Option (ByteArray)
  | 0, _, _, _, _, _, _, _ => none
  | k + 1, x0, x1, x5, x6, x19, x20, x21 => if x21 < x20 then (if 0 ≤ x21 then (if x21 < (x19.length : Int) then ((spec_l2Take.f k x0 (rd x19 x21)).bind fun bt285 => (if bt285.2.2.2 = true then (if bt285.1.toList = x1.toList then (if x0.size + x6.size ≤ 9223372036854775807 then ((some (([(wrap64 (192 + (wrap64 (Int.tdiv (rd x19 x21) 256)))) % 256, (rd x19 x21) % 256] : List Int) : List Int)).bind fun y291 => (if (x0 ++ x6).size + (strOfNums y291).size ≤ 9223372036854775807 then (some ((x0 ++ x6) ++ (strOfNums y291))) else (none))) else (none)) else (spec_l2Put.l1 k x0 x1 x5 x6 x19 x20 (wrap64 (x21 + 1)))) else (spec_l2Put.l1 k x0 x1 x5 x6 x19 x20 (wrap64 (x21 + 1))))) else (none)) else (none)) else ((spec_l1Labels.f k x1).bind fun bt294 => (if 0 < (bt294.1.length : Int) then ((some (([(((rdOf ByteArray.empty bt294.1 0).size : Int)) % 256] : List Int) : List Int)).bind fun y299 => (if (strOfNums y299).size + (rdOf ByteArray.empty bt294.1 0).size ≤ 9223372036854775807 then (if x6.size + ((strOfNums y299) ++ (rdOf ByteArray.empty bt294.1 0)).size ≤ 9223372036854775807 then ((spec_l1Parent.f k x1).bind fun t303 => (spec_l2Put.l0 k x0 t303 x5 (x6 ++ ((strOfNums y299) ++ (rdOf ByteArray.empty bt294.1 0))))) else (none)) else (none))) else (none)))
end
def spec_l2Put.f (k : Nat) (a0 : ByteArray) (a1 : ByteArray) : Option (ByteArray) := (spec_l2Suffixes.f k a0).bind fun t281 => (spec_l2Put.l0 k a0 a1 t281 (⟨#[]⟩ : ByteArray))
theorem spec_l2Put.mono_l : ∀ k, (∀ y0 y1 y2 y3, LeO (spec_l2Put.l0 k y0 y1 y2 y3) (spec_l2Put.l0 (k + 1) y0 y1 y2 y3)) ∧ (∀ y0 y1 y2 y3 y4 y5 y6, LeO (spec_l2Put.l1 k y0 y1 y2 y3 y4 y5 y6) (spec_l2Put.l1 (k + 1) y0 y1 y2 y3 y4 y5 y6))
  | 0 => ⟨fun _ _ _ _ r h => by simp [spec_l2Put.l0] at h, fun _ _ _ _ _ _ _ r h => by simp [spec_l2Put.l1] at h⟩
  | k + 1 => by
    obtain ⟨ih0, ih1⟩ := spec_l2Put.mono_l k
    refine ⟨?_, ?_⟩
    · intro y0 y1 y2 y3
      unfold spec_l2Put.l0
      repeat' first
      | (with_reducible exact ih0 _ _ _ _)
      | (with_reducible exact ih1 _ _ _ _ _ _ _)
      | (with_reducible exact spec_l1Labels.mono _ _)
      | (with_reducible exact spec_l1Parent.mono _ _)
      | (with_reducible exact spec_l2Suffixes.mono _ _)
      | (with_reducible exact spec_l2Take.mono _ _ _)
      | (with_reducible exact LeO.refl _)
      | (with_reducible exact LeO.none _)
      | (with_reducible refine LeO.ite ?_ ?_)
      | (with_reducible refine LeO.bind ?_ (fun _ => ?_))
      | exact ih0 _ _ _ _
      | exact ih1 _ _ _ _ _ _ _
      | exact spec_l1Labels.mono _ _
      | exact spec_l1Parent.mono _ _
      | exact spec_l2Suffixes.mono _ _
      | exact spec_l2Take.mono _ _ _
      | exact LeO.none _
      | refine LeO.ite ?_ ?_
      | refine LeO.bind ?_ (fun _ => ?_)
    · intro y0 y1 y2 y3 y4 y5 y6
      unfold spec_l2Put.l1
      repeat' first
      | (with_reducible exact ih0 _ _ _ _)
      | (with_reducible exact ih1 _ _ _ _ _ _ _)
      | (with_reducible exact spec_l1Labels.mono _ _)
      | (with_reducible exact spec_l1Parent.mono _ _)
      | (with_reducible exact spec_l2Suffixes.mono _ _)
      | (with_reducible exact spec_l2Take.mono _ _ _)
      | (with_reducible exact LeO.refl _)
      | (with_reducible exact LeO.none _)
      | (with_reducible refine LeO.ite ?_ ?_)
      | (with_reducible refine LeO.bind ?_ (fun _ => ?_))
      | exact ih0 _ _ _ _
      | exact ih1 _ _ _ _ _ _ _
      | exact spec_l1Labels.mono _ _
      | exact spec_l1Parent.mono _ _
      | exact spec_l2Suffixes.mono _ _
      | exact spec_l2Take.mono _ _ _
      | exact LeO.none _
      | refine LeO.ite ?_ ?_
      | refine LeO.bind ?_ (fun _ => ?_)
theorem spec_l2Put.mono : ∀ a0 a1 k, LeO (spec_l2Put.f k a0 a1) (spec_l2Put.f (k + 1) a0 a1) := by
  intro a0 a1 k
  obtain ⟨ih0, ih1⟩ := spec_l2Put.mono_l k
  unfold spec_l2Put.f
  repeat' first
      | (with_reducible exact ih0 _ _ _ _)
      | (with_reducible exact ih1 _ _ _ _ _ _ _)
      | (with_reducible exact spec_l1Labels.mono _ _)
      | (with_reducible exact spec_l1Parent.mono _ _)
      | (with_reducible exact spec_l2Suffixes.mono _ _)
      | (with_reducible exact spec_l2Take.mono _ _ _)
      | (with_reducible exact LeO.refl _)
      | (with_reducible exact LeO.none _)
      | (with_reducible refine LeO.ite ?_ ?_)
      | (with_reducible refine LeO.bind ?_ (fun _ => ?_))
      | exact ih0 _ _ _ _
      | exact ih1 _ _ _ _ _ _ _
      | exact spec_l1Labels.mono _ _
      | exact spec_l1Parent.mono _ _
      | exact spec_l2Suffixes.mono _ _
      | exact spec_l2Take.mono _ _ _
      | exact LeO.none _
      | refine LeO.ite ?_ ?_
      | refine LeO.bind ?_ (fun _ => ?_)
set_option maxHeartbeats 8000000 in
set_option maxRecDepth 100000 in

theorem cell_two (w : World) (x0 x1 : Int) (t : TypeId) (j : Nat) (hj : j < 2) : (w.alloc (Obj.cells #[.int .u8 x0, .int .u8 x1] t)).cell? ((⟨w.heap.size, 0, none⟩ : Addr).add j) = some (.int .u8 (([x0, x1] : List Int).getD j 0)) := by
  rw [add_plain]
  unfold World.cell?
  rw [heap_alloc_new]
  rcases j with _ | _ | j
  · simp
  · simp
  · omega
set_option maxRecDepth 100000 in
set_option maxHeartbeats 4000000 in
theorem spec_l2Put.calls (k : Nat) (a0 : ByteArray) (a1 : ByteArray) (r : ByteArray) (w : World) (h : spec_l2Put.f k a0 a1 = some r) :
    Calls Tryd.prog 48 #[.string a0, .string a1] w fun e w' => e = .returned (.string r) ∧ Below w.heap.size w w' := by
  unfold spec_l2Put.f at h
  obtain ⟨places, hp, h⟩ := Option.bind_eq_some_iff.mp h
  have sc := fun W => spec_l2Suffixes.calls k a0 places W hp
  have H' := Aside0.mk h
  clear h
  go_enter Tryd.func48, Tryd.ntmps48
  go_wp2_with (go_at_call 43; refine (sc _).mono ?_; rintro e w1 ⟨v, rfl, hR, hbw⟩; have HO := Aside0.mk hR; have HB1 := Aside0.mk hbw; clear hR hbw; obtain ⟨A, c, rfl⟩ := Kd.R_slice HO.out)
  go_loopg [1, 6] k (fun kq v1 v6 wr => ∃ (rest head : ByteArray), v1 = .string rest ∧ v6 = .string head ∧ Aside0 (spec_l2Put.l0 kq a0 rest places head = some r) ∧ Aside0 (kq ≤ k) ∧ Aside0 (Kd.C (Kd.int .i64) wr A places.length places) ∧ Aside0 (Below w.heap.size w wr))
  case atStart => exact ⟨a1, (⟨#[]⟩ : ByteArray), rfl, rfl, H', ⟨Nat.le_refl _⟩, ⟨(Kd.R_reads' HO.out).2.2⟩, HB1⟩
  case round =>
    obtain ⟨rest, head, rfl, rfl, HA, HK1, HC, BW⟩ := hrel
    cases gk with
    | zero => exact absurd HA.out (by simp [spec_l2Put.l0])
    | succ k1 =>
      have H := HA.out
      clear HA
      simp only [spec_l2Put.l0] at H
      by_cases c1 : rest.toList = ([] : List UInt8)
      · rw [if_pos c1] at H
        have c1b : (rest.toList == ([] : List UInt8)) = true := by rw [c1]; rfl
        have c1c : (rest.toList != ([] : List UInt8)) = false := by rw [c1]; rfl
        by_cases c4 : a0.size + head.size ≤ 9223372036854775807
        · rw [if_pos c4] at H
          by_cases c5 : (a0 ++ head).size + 1 ≤ 9223372036854775807
          · rw [if_pos c5] at H
            have c4a := eq_true c4
            have c4c : (9223372036854775807 < a0.size + head.size) = False := eq_false (by omega)
            have hbs : (a0 ++ head).size = a0.size + head.size := ByteArray.size_append
            rw [hbs] at c5
            have c6a := eq_true c5
            have c6c : (9223372036854775807 < a0.size + head.size + 1) = False := eq_false (by omega)
            clear hbs
            go_wp2
            go_ret
            obtain rfl := Option.some.inj H
            exact ⟨rfl, BW.out⟩
          · rw [if_neg c5] at H; cases H
        · rw [if_neg c4] at H; cases H
      · rw [if_neg c1] at H
        have c1b : (rest.toList == ([] : List UInt8)) = false := beq_eq_false_iff_ne.mpr c1
        have c1c : (rest.toList != ([] : List UInt8)) = true := by rw [bne, c1b]; rfl
        have HI := Aside0.mk H
        clear H
        go_wp2
        go_loopg [21] k1 (fun kq v21 wi => ∃ (x : Int), v21 = .int .i64 x ∧ Aside0 (spec_l2Put.l1 kq a0 rest places head places (places.length : Int) x = some r) ∧ Aside0 (kq ≤ k1) ∧ Aside0 (Kd.C (Kd.int .i64) wi A places.length places) ∧ Aside0 (Below w.heap.size w wi))
        case atStart => exact ⟨0, rfl, HI, ⟨Nat.le_refl _⟩, HC, BW⟩
        case round =>
          clear HI HC BW
          obtain ⟨x, rfl, HA, HK2, HC, BW⟩ := hrel
          cases gk with
          | zero => exact absurd HA.out (by simp [spec_l2Put.l1])
          | succ k2 =>
            have H := HA.out
            clear HA
            simp only [spec_l2Put.l1] at H
            by_cases c7 : x < (places.length : Int)
            · rw [if_pos c7] at H
              have c7b : decide (x < (places.length : Int)) = true := decide_eq_true c7
              by_cases c8 : 0 ≤ x
              · rw [if_pos c8, if_pos c7] at H
                obtain ⟨⟨t1, t2, t3, t4⟩, ht, H⟩ := Option.bind_eq_some_iff.mp H
                replace H := H
                have tc := fun W => spec_l2Take.calls k2 a0 (rd places x) t1 t2 t3 t4 W ht
                obtain ⟨ad, e0, hx⟩ := Kd.at_int HC.out x c8 c7
                cases e0
                have c7z := eq_true c7
                have c8z := eq_true c8
                generalize rd places x = pv at H tc hx
                have HN := Aside0.mk H
                clear H
                cases t4 with
                | false =>
                  have HN2 : Aside0 (spec_l2Put.l1 k2 a0 rest places head places (places.length : Int) (wrap64 (x + 1)) = some r) := ⟨by have := HN.out; simpa using this⟩
                  clear HN
                  go_wp2_with (go_at_call 40; refine (tc _).mono ?_; rintro e w2 ⟨v, rfl, hR2, hb2⟩)
                  go_roundg k2
                  case measure => have := HK2.out; omega
                  case rel => exact ⟨wrap64 (x + 1), rfl, HN2, ⟨by have := HK2.out; omega⟩, ⟨Kd.C_below HC.out hb2⟩, ⟨below_then BW.out BW.out.size hb2⟩⟩
                | true =>
                  by_cases c9 : t1.toList = rest.toList
                  · have c9b : (t1.toList == rest.toList) = true := beq_iff_eq.mpr c9
                    have HE := HN.out
                    rw [if_pos rfl, if_pos c9] at HE
                    clear HN
                    by_cases c10 : a0.size + head.size ≤ 9223372036854775807
                    · rw [if_pos c10] at HE
                      have c10a := eq_true c10
                      have c10c : (9223372036854775807 < a0.size + head.size) = False := eq_false (by omega)
                      have hcv0 := fun W : World => string_of_reads (P := Tryd.prog) (src := 44) (dst := 9) (c := 2) (w := W.alloc (Obj.cells #[.int .u8 ((wrap64 (192 + (wrap64 (Int.tdiv pv 256)))) % 256), .int .u8 (pv % 256)] 5)) (A := some ⟨W.heap.size, 0, none⟩) (n := 2) (xs := [(wrap64 (192 + (wrap64 (Int.tdiv pv 256)))) % 256, pv % 256]) Tryd.underlying44 Tryd.underlying5 Tryd.underlying9 ⟨rfl, by omega, fun _ => ⟨_, rfl, fun j hj => cell_two W _ _ _ j hj⟩⟩
                      replace HE : (if (a0 ++ head).size + (strOfNums [(wrap64 (192 + (wrap64 (Int.tdiv pv 256)))) % 256, pv % 256]).size ≤ 9223372036854775807 then some ((a0 ++ head) ++ strOfNums [(wrap64 (192 + (wrap64 (Int.tdiv pv 256)))) % 256, pv % 256]) else none) = some r := HE
                      generalize strOfNums [(wrap64 (192 + (wrap64 (Int.tdiv pv 256)))) % 256, pv % 256] = sb at HE hcv0
                      by_cases c11 : (a0 ++ head).size + sb.size ≤ 9223372036854775807
                      · rw [if_pos c11] at HE
                        rw [ByteArray.size_append] at c11
                        have c11a := eq_true c11
                        have c11c : (9223372036854775807 < a0.size + head.size + sb.size) = False := eq_false (by omega)
                        obtain rfl := Option.some.inj HE
                        clear HE
                        go_wp2_with (go_at_call 40; refine (tc _).mono ?_; rintro e w2 ⟨v, rfl, hR2, hb2⟩; have hcv := hcv0 w2)
                        go_ret
                        exact ⟨rfl, below_alloc (below_then BW.out BW.out.size hb2) _⟩
                      · rw [if_neg c11] at HE; cases HE
                    · rw [if_neg c10] at HE; cases HE
                  · have c9b : (t1.toList == rest.toList) = false := beq_eq_false_iff_ne.mpr c9
                    have HN2 : Aside0 (spec_l2Put.l1 k2 a0 rest places head places (places.length : Int) (wrap64 (x + 1)) = some r) := ⟨by have := HN.out; simpa [c9] using this⟩
                    clear HN
                    go_wp2_with (go_at_call 40; refine (tc _).mono ?_; rintro e w2 ⟨v, rfl, hR2, hb2⟩)
                    go_roundg k2
                    case measure => have := HK2.out; omega
                    case rel => exact ⟨wrap64 (x + 1), rfl, HN2, ⟨by have := HK2.out; omega⟩, ⟨Kd.C_below HC.out hb2⟩, ⟨below_then BW.out BW.out.size hb2⟩⟩
              · rw [if_neg c8] at H; cases H
            · rw [if_neg c7] at H
              have c7b : decide (x < (places.length : Int)) = false := decide_eq_false c7
              have H2 := H
              clear H
              obtain ⟨⟨lab, lok⟩, hlab, H2⟩ := Option.bind_eq_some_iff.mp H2
              have lc := fun W => spec_l1Labels.calls k2 rest lab lok W hlab
              by_cases c12 : 0 < (lab.length : Int)
              · replace H2 : (if 0 < (lab.length : Int) then ((some (([(((rdOf ByteArray.empty lab 0).size : Int)) % 256] : List Int) : List Int)).bind fun y299 => (if (strOfNums y299).size + (rdOf ByteArray.empty lab 0).size ≤ 9223372036854775807 then (if head.size + ((strOfNums y299) ++ (rdOf ByteArray.empty lab 0)).size ≤ 9223372036854775807 then ((spec_l1Parent.f k2 rest).bind fun t303 => (spec_l2Put.l0 k2 a0 t303 places (head ++ ((strOfNums y299) ++ (rdOf ByteArray.empty lab 0))))) else (none)) else (none))) else (none)) = some r := H2
                rw [if_pos c12] at H2
                obtain ⟨lab0, hl0⟩ : ∃ y, y = rdOf ByteArray.empty lab 0 := ⟨_, rfl⟩
                rw [← hl0] at H2
                replace H2 : (if (strOfNums [((lab0.size : Int)) % 256]).size + lab0.size ≤ 9223372036854775807 then (if head.size + ((strOfNums [((lab0.size : Int)) % 256]) ++ lab0).size ≤ 9223372036854775807 then ((spec_l1Parent.f k2 rest).bind fun t303 => (spec_l2Put.l0 k2 a0 t303 places (head ++ ((strOfNums [((lab0.size : Int)) % 256]) ++ lab0)))) else (none)) else (none)) = some r := H2
                obtain ⟨y, hy⟩ : ∃ y : List Int, y = [((lab0.size : Int)) % 256] := ⟨_, rfl⟩
                rw [← hy] at H2
                have Ny := Aside0.mk hy
                clear hy
                by_cases c13 : (strOfNums y).size + lab0.size ≤ 9223372036854775807
                · rw [if_pos c13, ByteArray.size_append] at H2
                  by_cases c14 : head.size + ((strOfNums y).size + lab0.size) ≤ 9223372036854775807
                  · rw [if_pos c14] at H2
                    obtain ⟨par, hpar, H2⟩ := Option.bind_eq_some_iff.mp H2
                    have pc := fun W => spec_l1Parent.calls k2 rest par W hpar
                    have HN := Aside0.mk H2
                    clear H2
                    have c13a := eq_true c13
                    have c13c : (9223372036854775807 < (strOfNums y).size + lab0.size) = False := eq_false (by omega)
                    have c14a := eq_true c14
                    have c14c : (9223372036854775807 < head.size + ((strOfNums y).size + lab0.size)) = False := eq_false (by omega)
                    have c12z := eq_true (show 0 < lab.length by omega)
                    have HL0 := Aside0.mk hl0
                    clear hl0
                    go_wp2_with (go_at_call 67; refine (lc _).mono ?_; rintro e w2 ⟨v, rfl, hR2, hb2⟩; obtain ⟨A2, cL, rfl⟩ := Kd.R_slice hR2)
                    obtain ⟨ad, e0, hx⟩ := Kd.at_string (Kd.R_reads' hR2).2.2 0 (Int.le_refl 0) c12
                    cases e0
                    rw [← HL0.out] at hx
                    replace hx : w2.cell? ad = some (.string lab0) := by have := hx; rwa [show ((0 : Int)).toNat = 0 from rfl, Addr.add_zero'] at this
                    have HC3 := Aside0.mk (Kd.C_below HC.out hb2)
                    have BW3 := Aside0.mk (below_then BW.out BW.out.size hb2)
                    clear hR2 hb2
                    have BW3 := Aside0.mk (below_drew1 BW3.out)
                    have HC3 := Aside0.mk (Kd.C_below HC3.out (below_drew1 (Below.refl _ _)))
                    refine start_ (n := 14) (S := fun w' => w'.cell? ad = some (.string lab0)) (ds := []) #[false, false, false, false, false, false, false, false, false, false, false, false, false, false] (by kernel_rfl) rfl rfl (hx) (fun hHeld => ?_)
                    generalize hw3 : w2.drew = w3 at BW3 HC3 hx hHeld ⊢
                    refine pure_ (i := 0) (N := some 57) (v := ?_) (a' := ?_) #[true, false, false, false, false, false, false, false, false, false, false, false, false, false] rfl rfl (by kernel_rfl) (fun _ _ _ h => h) (Or.inl ⟨by rfl, ?_⟩) ?_ ?_
                    rotate_left
                    · intro w'
                      go_simp
                      with_reducible rfl
                    rotate_left
                    · simp only [Act.put, List.setIfInBounds_toArray, List.set_cons_zero, List.set_cons_succ, i64_w, i32_w]
                      rfl
                    refine pure_ (i := 1) (N := some 58) (v := ?_) (a' := ?_) #[true, true, false, false, false, false, false, false, false, false, false, false, false, false] rfl rfl (by kernel_rfl) (fun _ _ _ h => h) (Or.inl ⟨by rfl, ?_⟩) ?_ ?_
                    rotate_left
                    · intro w'
                      go_simp
                      with_reducible rfl
                    rotate_left
                    · simp only [Act.put, List.setIfInBounds_toArray, List.set_cons_zero, List.set_cons_succ, i64_w, i32_w]
                      rfl
                    refine pure_ (i := 2) (N := some 59) (v := ?_) (a' := ?_) #[true, true, true, false, false, false, false, false, false, false, false, false, false, false] rfl rfl (by kernel_rfl) (fun _ _ _ h => h) (Or.inl ⟨by rfl, ?_⟩) ?_ ?_
                    rotate_left
                    · intro w'
                      go_simp
                      with_reducible rfl
                    rotate_left
                    · simp only [Act.put, List.setIfInBounds_toArray, List.set_cons_zero, List.set_cons_succ, i64_w, i32_w]
                      rfl
                    refine pure_ (i := 8) (N := some 65) (v := ?_) (a' := ?_) #[true, true, true, false, false, false, false, false, true, false, false, false, false, false] rfl rfl (by kernel_rfl) (fun _ _ _ h => h) (Or.inl ⟨by rfl, ?_⟩) ?_ ?_
                    rotate_left
                    · intro w'
                      go_simp
                      with_reducible rfl
                    rotate_left
                    · simp only [Act.put, List.setIfInBounds_toArray, List.set_cons_zero, List.set_cons_succ, i64_w, i32_w]
                      rfl
                    refine pure_ (i := 9) (N := some 66) (v := ?_) (a' := ?_) #[true, true, true, false, false, false, false, false, true, true, false, false, false, false] rfl rfl (by kernel_rfl) (fun _ _ _ h => h) (Or.inl ⟨by rfl, ?_⟩) ?_ ?_
                    rotate_left
                    · intro w'
                      go_simp
                      with_reducible rfl
                    rotate_left
                    · simp only [Act.put, List.setIfInBounds_toArray, List.set_cons_zero, List.set_cons_succ, i64_w, i32_w]
                      rfl
                    refine take_ (i := 3) (N := some 60) (v := ?_) (a' := ?_) #[true, true, true, true, false, false, false, false, true, true, false, false, false, false] rfl rfl (by kernel_rfl) (fun _ _ _ h => h) (Or.inl ⟨by rfl, ?_⟩) hHeld ?_ ?_
                    rotate_left
                    · intro w' s0
                      go_simp
                      with_reducible rfl
                    rotate_left
                    · simp only [Act.put, List.setIfInBounds_toArray, List.set_cons_zero, List.set_cons_succ, i64_w, i32_w]
                      rfl
                    refine pure_ (i := 4) (N := some 61) (v := ?_) (a' := ?_) #[true, true, true, true, true, false, false, false, true, true, false, false, false, false] rfl rfl (by kernel_rfl) (fun _ _ _ h => h) (Or.inl ⟨by rfl, ?_⟩) ?_ ?_
                    rotate_left
                    · intro w'
                      go_simp
                      with_reducible rfl
                    rotate_left
                    · simp only [Act.put, List.setIfInBounds_toArray, List.set_cons_zero, List.set_cons_succ, i64_w, i32_w]
                      rfl
                    refine pure_ (i := 5) (N := some 62) (v := ?_) (a' := ?_) #[true, true, true, true, true, true, false, false, true, true, false, false, false, false] rfl rfl (by kernel_rfl) (fun _ _ _ h => h) (Or.inl ⟨by rfl, ?_⟩) ?_ ?_
                    rotate_left
                    · intro w'
                      go_simp
                      with_reducible rfl
                    rotate_left
                    · simp only [Act.put, List.setIfInBounds_toArray, List.set_cons_zero, List.set_cons_succ, i64_w, i32_w]
                      rfl
                    refine take_ (i := 10) (N := some 67) (v := ?_) (a' := ?_) #[true, true, true, true, true, true, false, false, true, true, true, false, false, false] rfl rfl (by kernel_rfl) (fun _ _ _ h => h) (Or.inl ⟨by rfl, ?_⟩) hHeld ?_ ?_
                    rotate_left
                    · intro w' s0
                      go_simp
                      with_reducible rfl
                    rotate_left
                    · simp only [Act.put, List.setIfInBounds_toArray, List.set_cons_zero, List.set_cons_succ, i64_w, i32_w]
                      rfl
                    refine one_ (i := 6) (N := some 63) #[true, true, true, true, true, true, true, false, true, true, true, false, false, false] rfl rfl (by kernel_rfl) (by decide) (fun K hK => ?_)
                    refine Kd.R_lit_step (Kd.int .u8) _ 5 ?hg (N := 63) ?hd (xs := ([((lab0.size : Int)) % 256] : List Int)) (inner := [.int .u8 (((lab0.size : Int)) % 256)]) (ok := fun _ => True) (okp := fun _ => True) ?hr ?hp (fun _ hk => hk) trivial (Below.refl _ _) (Nat.le_refl _) (by simp) ?_; (case hd => rfl); (case hg => rfl); (case hr => first | (go_simp; done) | (go_simp; rfl)); (case hp => exact (Reps.one (show Kd.M (Kd.int .u8) _ _ _ (((lab0.size : Int)) % 256) [.int .u8 (((lab0.size : Int)) % 256)] from rfl) (Reps.none _ _)))
                    intro vL wL hoL hb hg_ hnew_
                    have HS0_ := (hb.cell (World.block_lt_of_cell? _ _ (hHeld))).trans (hHeld)
                    (first | rw [← Ny.out] at hoL | (simp only [Int.reduceToNat] at hoL; rw [← Ny.out] at hoL)); have HLIT := Aside0.mk hoL
                    have n4_ := Aside0.mk (below_step BW3.out hb)
                    clear BW3
                    have BW3 := n4_
                    have n5_ := Aside0.mk (Kd.C_below HC3.out hb)
                    clear HC3
                    have HC3 := n5_
                    clear n4_ n5_ hg_ hnew_ hb hoL
                    refine hK.out _ _ (HS0_) (fun hHeld => ?_)
                    clear hK K
                    refine norm_ (a' := ?_) ?_ ?_
                    rotate_left
                    · show Act.put _ (some 63) _ = _
                      simp only [Act.put, List.setIfInBounds_toArray, List.set_cons_zero, List.set_cons_succ, i64_w, i32_w]
                      rfl
                    refine one_ (i := 7) (N := some 64) #[true, true, true, true, true, true, true, true, true, true, true, false, false, false] rfl rfl (by kernel_rfl) (by decide) (fun K hK => ?_)
                    have hcvL := own_string (P := Tryd.prog) Tryd.underlying44 Tryd.underlying5 Tryd.underlying9 (Kd.own_of_R HLIT.out)
                    refine value_ (w1 := ?_) (v := ?_) (by rfl) rfl ?_ ?_
                    rotate_left 2
                    · go_simp
                      constructor
                      · rfl
                      · rfl
                    clear hcvL
                    refine hK.out _ _ (hHeld) (fun hHeld => ?_)
                    clear hK K
                    refine norm_ (a' := ?_) ?_ ?_
                    rotate_left
                    · show Act.put _ (some 64) _ = _
                      simp only [Act.put, List.setIfInBounds_toArray, List.set_cons_zero, List.set_cons_succ, i64_w, i32_w]
                      rfl
                    refine pure_ (i := 11) (N := some 68) (v := ?_) (a' := ?_) #[true, true, true, true, true, true, true, true, true, true, true, true, false, false] rfl rfl (by kernel_rfl) (fun _ _ _ h => h) (Or.inl ⟨by rfl, ?_⟩) ?_ ?_
                    rotate_left
                    · intro w'
                      go_simp
                      with_reducible rfl
                    rotate_left
                    · simp only [Act.put, List.setIfInBounds_toArray, List.set_cons_zero, List.set_cons_succ, i64_w, i32_w]
                      rfl
                    refine pure_ (i := 12) (N := some 69) (v := ?_) (a' := ?_) #[true, true, true, true, true, true, true, true, true, true, true, true, true, false] rfl rfl (by kernel_rfl) (fun _ _ _ h => h) (Or.inl ⟨by rfl, ?_⟩) ?_ ?_
                    rotate_left
                    · intro w'
                      go_simp
                      with_reducible rfl
                    rotate_left
                    · simp only [Act.put, List.setIfInBounds_toArray, List.set_cons_zero, List.set_cons_succ, i64_w, i32_w]
                      rfl
                    refine pure_ (i := 13) (N := some 6) (v := ?_) (a' := ?_) #[true, true, true, true, true, true, true, true, true, true, true, true, true, true] rfl rfl (by kernel_rfl) (fun _ _ _ h => h) (Or.inl ⟨by rfl, ?_⟩) ?_ ?_
                    rotate_left
                    · intro w'
                      go_simp
                      with_reducible rfl
                    rotate_left
                    · simp only [Act.put, List.setIfInBounds_toArray, List.set_cons_zero, List.set_cons_succ, i64_w, i32_w]
                      rfl
                    refine done_ (by kernel_rfl) ?_
                    go_wp2_with (go_at_call 68; refine (pc _).mono ?_; rintro e w5_ ⟨rfl, ⟨nd5, rfl⟩⟩)
                    have bdn := pw_below_drewN (Below.refl wL.heap.size wL) nd5
                    go_roundg k2
                    case measure => have := HK1.out; have := HK2.out; omega
                    case rel => exact ⟨par, head ++ (strOfNums y ++ lab0), rfl, rfl, HN, ⟨by have := HK1.out; have := HK2.out; omega⟩, ⟨Kd.C_below HC3.out bdn⟩, ⟨below_then BW3.out BW3.out.size bdn⟩⟩
                  · rw [if_neg c14] at H2; cases H2
                · rw [if_neg c13] at H2; cases H2
              · replace H2 : (if 0 < (lab.length : Int) then _ else none) = some r := H2
                rw [if_neg c12] at H2
                cases H2
end Go.Proofs.YtomcfhbmdoomlaaDoor.P
