/- FnPacked: part 13 of 28 of my texts for this claim, joined; the theorem stands in the last. Conditions: none beyond the statement's. -/
import Derived.Test.YtomcfhbmdoomlaaDoorMFnPackedx11
import Derived.Test.YtomcfhbmdoomlaaDoorMFnPackedx2
import Derived.Test.YtomcfhbmdoomlaaDoorMFnPackedx4
-- HPutW
/- impl.putName: its walk, over the closure, slices.IndexFunc and strings.Cut. Conditions: none. -/
namespace Go.Proofs.YtomcfhbmdoomlaaDoor.P
open Go.RowKit Go.Proofs.YtomcfhbmdoomlaaDoorW.PrintWords Go.Proofs.YtomcfhbmdoomlaaDoorW.PrintLast Go.Proofs.YtomcfhbmdoomlaaDoorW.PrintMore
set_option linter.unusedVariables false
set_option linter.unusedSimpArgs false
def putP (k : Nat) (b rest : ByteArray) (x : Int) : Bool := match impl_takeName.f k b x with
  | some t => t.2.2.2 && (t.1.toList == rest.toList)
  | none => false
def putDef (k : Nat) (b : ByteArray) (places : List Int) : Bool := places.all fun x => (impl_takeName.f k b x).isSome
def impl_putName.l0 : Nat → ByteArray → List Int → ByteArray → ByteArray → Option ByteArray
  | 0, _, _, _, _ => none
  | k + 1, b, places, ahead, rest => if rest.toList = ([] : List UInt8) then (if b.size + ahead.size < 1099511627776 then some ((b ++ ahead) ++ (⟨#[0]⟩ : ByteArray)) else none) else (if putDef k b places = true then (if 0 ≤ idxP (putP k b rest) places 0 then (if b.size + ahead.size < 1099511627776 then some ((b ++ ahead) ++ strOfNums [(wrap64 (192 + (wrap64 (Int.tdiv (rd places (idxP (putP k b rest) places 0)) 256)))) % 256, (rd places (idxP (putP k b rest) places 0)) % 256]) else none) else ((strings_Cut.f rest (⟨#[46]⟩ : ByteArray)).bind fun c => (if ahead.size + c.1.size < 1099511627776 then ((impl_parentOf.f rest).bind fun p => impl_putName.l0 k b places (ahead ++ (strOfNums [((c.1.size : Int)) % 256] ++ c.1)) p) else none))) else none)
def impl_putName.f (k : Nat) (b s : ByteArray) : Option ByteArray := (impl_suffixesOf.f k b).bind fun places => impl_putName.l0 k b places (⟨#[]⟩ : ByteArray) s
theorem cell_new (w : World) (v : Value) (t : TypeId) : (w.alloc (Obj.cells #[v] t)).cell? ⟨w.heap.size, 0, none⟩ = some v := by
  unfold World.cell?
  rw [heap_alloc_new]
  simp
theorem put_next (w3 : World) (c1 : Obj) (rest par : ByteArray) (t : TypeId) (nd : Nat) :
    Below w3.heap.size w3 ((((w3.alloc c1).alloc (Obj.cells #[.string rest] t)).drewN nd).setCell ⟨w3.heap.size + 1, 0, none⟩ (.string par)) ∧ ((((w3.alloc c1).alloc (Obj.cells #[.string rest] t)).drewN nd).setCell ⟨w3.heap.size + 1, 0, none⟩ (.string par)).cell? ⟨w3.heap.size + 1, 0, none⟩ = some (.string par) := by
  have hs : (w3.alloc c1).heap.size = w3.heap.size + 1 := by simp [World.alloc, -World.alloc_eq]
  have hq0 : ((w3.alloc c1).alloc (Obj.cells #[.string rest] t)).heap[w3.heap.size + 1]? = some (.cells #[.string rest] t) := by rw [← hs]; exact heap_alloc_new _ _
  have hq : (((w3.alloc c1).alloc (Obj.cells #[.string rest] t)).drewN nd).heap[w3.heap.size + 1]? = some (.cells #[.string rest] t) := hq0
  have b1 : Below w3.heap.size w3 (((w3.alloc c1).alloc (Obj.cells #[.string rest] t)).drewN nd) := pw_below_drewN (below_alloc (below_alloc (Below.refl _ _) _) _) nd
  rw [setCell_eq_setRow _ _ _ _ _ _ _ hq]
  refine ⟨⟨b1.os, b1.tape, b1.output, by rw [setRow_size]; exact b1.size, fun k hk => by rw [setRow_other _ _ _ _ (by omega)]; exact b1.block k hk⟩, ?_⟩
  unfold World.cell?
  rw [setRow_heap _ _ _ _ _ _ hq]
  simp
theorem put_pred (k : Nat) (b rest : ByteArray) (places : List Int) (hd : putDef k b places = true) (W : World) (gb gr : Nat)
    (hb : W.cell? ⟨gb, 0, none⟩ = some (.string b)) (hr : W.cell? ⟨gr, 0, none⟩ = some (.string rest)) :
    PredB 71 #[.pointer (some ⟨gb, 0, none⟩), .pointer (some ⟨gr, 0, none⟩)] (.int .i64) (putP k b rest) places W := by
  intro x hx W' hW
  have h1 := List.all_eq_true.1 hd x hx
  obtain ⟨t, ht⟩ := Option.isSome_iff_exists.1 h1
  obtain ⟨t1, t2, t3, t4⟩ := t
  have e : putP k b rest x = (t4 && (t1.toList == rest.toList)) := by unfold putP; rw [ht]
  rw [e]
  exact put_closure k b rest x t1 t2 t3 t4 ht W' gb gr ((hW.cell (World.block_lt_of_cell? _ _ hb)).trans hb) ((hW.cell (World.block_lt_of_cell? _ _ hr)).trans hr)
theorem idxP_lt {α : Type} (p : α → Bool) (xs : List α) : idxP p xs 0 < (xs.length : Int) := by
  have : ∀ (xs : List α) (i : Int), 0 ≤ i → idxP p xs i < i + (xs.length : Int) ∨ idxP p xs i = -1 := by
    intro xs
    induction xs with
    | nil => intro i _; exact .inr rfl
    | cons x xs ih =>
      intro i h0
      unfold idxP
      split
      · left; simp only [List.length_cons]; omega
      · rcases ih (i + 1) (by omega) with h | h
        · left; simp only [List.length_cons]; omega
        · exact .inr h
  rcases this xs 0 (by omega) with h | h
  · omega
  · rw [h]; omega
set_option maxRecDepth 100000 in
set_option maxHeartbeats 4000000 in
theorem put_walk (k : Nat) (b s : ByteArray) (places : List Int) (r : ByteArray) (w : World) (h : impl_suffixesOf.f k b = some places) (h2 : impl_putName.l0 k b places (⟨#[]⟩ : ByteArray) s = some r) :
    Calls Tryd.prog 49 #[.string b, .string s] w fun e w' => e = .returned (.string r) ∧ Below w.heap.size w w' := by
  have sc := fun W => impl_suffixesOf.calls k b places W h
  have H' := Aside0.mk h2
  clear h h2
  go_enter Tryd.func49, Tryd.ntmps49
  go_wp2_with (go_at_call 44; refine (sc _).mono ?_; rintro e w1 ⟨v, rfl, hR, hbw⟩; have HO := Aside0.mk hR; have HB1 := Aside0.mk hbw; clear hR hbw; obtain ⟨A, c, rfl⟩ := Kd.R_slice HO.out)
  go_loopg [6, 7] k (fun kq v6 v7 wr => ∃ (ahead rest : ByteArray) (gr : Nat), v6 = .string ahead ∧ v7 = .pointer (some ⟨gr, 0, none⟩) ∧ Aside0 (impl_putName.l0 kq b places ahead rest = some r) ∧ Aside0 (kq ≤ k) ∧ Aside0 (Kd.C (Kd.int .i64) wr A places.length places) ∧ Aside0 (wr.cell? ⟨w.heap.size, 0, none⟩ = some (.string b)) ∧ Aside0 (wr.cell? ⟨gr, 0, none⟩ = some (.string rest)) ∧ Aside0 (w.heap.size ≤ gr) ∧ Aside0 (Below w.heap.size w wr))
  case atStart =>
    have hc0 : (w.alloc (Obj.cells #[.string b] 9)).cell? ⟨w.heap.size, 0, none⟩ = some (.string b) := cell_new w _ _
    have hc1 := (HB1.out.cell (World.block_lt_of_cell? _ _ hc0)).trans hc0
    have hw1 : w.heap.size ≤ w1.heap.size := Nat.le_trans (below_alloc (Below.refl _ w) _).size HB1.out.size
    exact ⟨(⟨#[]⟩ : ByteArray), s, w1.heap.size, rfl, rfl, H', ⟨Nat.le_refl _⟩, ⟨(Kd.R_reads' (Kd.R_alloc HO.out _)).2.2⟩, ⟨(World.cell?_alloc_lt _ _ _ (World.block_lt_of_cell? _ _ hc1)).trans hc1⟩, ⟨cell_new w1 _ _⟩, ⟨hw1⟩, ⟨below_alloc (below_then (below_alloc (Below.refl _ w) _) (below_alloc (Below.refl _ w) _).size HB1.out) _⟩⟩
  case round =>
    obtain ⟨ahead, rest, gr, rfl, rfl, HA, HK1, HC, HB, HR, HG, BW⟩ := hrel
    cases gk with
    | zero => exact absurd HA.out (by simp [impl_putName.l0])
    | succ k1 =>
      have H := HA.out
      clear HA
      simp only [impl_putName.l0] at H
      by_cases c1 : rest.toList = ([] : List UInt8)
      · rw [if_pos c1] at H
        have c1b : (rest.toList == ([] : List UInt8)) = true := by rw [c1]; rfl
        have c1c : (rest.toList != ([] : List UInt8)) = false := by rw [c1]; rfl
        by_cases c4 : b.size + ahead.size < 1099511627776
        · rw [if_pos c4] at H
          have c5a := eq_true (show b.size + ahead.size ≤ 9223372036854775807 by omega)
          have c5b : decide (b.size + ahead.size ≤ 9223372036854775807) = true := decide_eq_true (by omega)
          have c5c : (9223372036854775807 < b.size + ahead.size) = False := eq_false (by omega)
          have hbs : (b ++ ahead).size = b.size + ahead.size := ByteArray.size_append
          have c6a := eq_true (show b.size + ahead.size + 1 ≤ 9223372036854775807 by omega)
          have c6b : decide (b.size + ahead.size + 1 ≤ 9223372036854775807) = true := decide_eq_true (by omega)
          have c6c : (9223372036854775807 < b.size + ahead.size + 1) = False := eq_false (by omega)
          clear hbs
          have hb0 := HB.out
          have hr0 := HR.out
          go_wp2
          go_ret
          obtain rfl := Option.some.inj H
          exact ⟨rfl, BW.out⟩
        · rw [if_neg c4] at H
          cases H
      · rw [if_neg c1] at H
        have c1b : (rest.toList == ([] : List UInt8)) = false := beq_eq_false_iff_ne.mpr c1
        have c1c : (rest.toList != ([] : List UInt8)) = true := by rw [bne, c1b]; rfl
        by_cases c2 : putDef k1 b places = true
        · rw [if_pos c2] at H
          have eg : ∀ args w, (callFunc 71 args).run Tryd.prog w = .ok (.enter 71 args) w := enters_of Tryd.func71 (by kernel_rfl) rfl
          have ic := fun W (hbW : Below wr.heap.size wr W) => index_int A c places 71 #[.pointer (some ⟨w.heap.size, 0, none⟩), .pointer (some ⟨gr, 0, none⟩)] (putP k1 b rest) W (Kd.C_below HC.out hbW) eg (put_pred k1 b rest places c2 W w.heap.size gr ((hbW.cell (World.block_lt_of_cell? _ _ HB.out)).trans HB.out) ((hbW.cell (World.block_lt_of_cell? _ _ HR.out)).trans HR.out))
          have hb0 := HB.out
          have hr0 := HR.out
          generalize hi : idxP (putP k1 b rest) places 0 = i at H ic
          have HI := Aside0.mk hi
          clear hi
          have ic0 := ic wr (Below.refl _ _)
          clear ic eg
          by_cases c3 : 0 ≤ i
          · rw [if_pos c3] at H
            have c3b : decide (0 ≤ i) = true := decide_eq_true c3
            have hil : i < (places.length : Int) := by have := idxP_lt (putP k1 b rest) places; rw [HI.out] at this; omega
            by_cases c4 : b.size + ahead.size < 1099511627776
            · rw [if_pos c4] at H
              obtain ⟨ad, e0, hx0⟩ := Kd.at_int HC.out i c3 hil
              cases e0
              have c5a := eq_true (show b.size + ahead.size ≤ 9223372036854775807 by omega)
              have c5b : decide (b.size + ahead.size ≤ 9223372036854775807) = true := decide_eq_true (by omega)
              have c5c : (9223372036854775807 < b.size + ahead.size) = False := eq_false (by omega)
              generalize rd places i = pv at H hx0
              obtain ⟨y, hy⟩ : ∃ y : List Int, y = [(wrap64 (192 + (wrap64 (Int.tdiv pv 256)))) % 256, pv % 256] := ⟨_, rfl⟩
              rw [← hy] at H
              have hys : (strOfNums y).size = 2 := by rw [hy, strOfNums_size]; rfl
              have Ny := Aside0.mk hy
              clear hy
              have hbs : (b ++ ahead).size = b.size + ahead.size := ByteArray.size_append
              have c6a := eq_true (show b.size + ahead.size + (strOfNums y).size ≤ 9223372036854775807 by omega)
              have c6b : decide (b.size + ahead.size + (strOfNums y).size ≤ 9223372036854775807) = true := decide_eq_true (by omega)
              have c6c : (9223372036854775807 < b.size + ahead.size + (strOfNums y).size) = False := eq_false (by omega)
              have c3z := eq_true c3
              have hilz := eq_true hil
              clear hys hbs
              go_wp2_with (go_at_call 70; refine ic0.mono ?_; rintro e w2 ⟨rfl, hb2⟩)
              have hb3 := ((hb2.cell (World.block_lt_of_cell? _ _ hb0)).trans hb0)
              have hx := ((hb2.cell (World.block_lt_of_cell? _ _ hx0)).trans hx0)
              have BW2 := Aside0.mk (below_drew1 (below_then BW.out BW.out.size hb2))
              refine start_ (n := 19) (S := fun w' => w'.cell? ⟨w.heap.size, 0, none⟩ = some (.string b) ∧ w'.cell? (ad.add i.toNat) = some (.int .i64 pv)) (ds := []) #[false, false, false, false, false, false, false, false, false, false, false, false, false, false, false, false, false, false, false] (by kernel_rfl) rfl rfl ⟨hb3, hx⟩ (fun hHeld => ?_)
              generalize hw3 : w2.drew = w3 at BW2 hb3 hx hHeld ⊢
              refine pure_ (i := 1) (N := some 25) (v := ?_) (a' := ?_) #[false, true, false, false, false, false, false, false, false, false, false, false, false, false, false, false, false, false, false] rfl rfl (by kernel_rfl) (fun _ _ _ h => h) (Or.inl ⟨by rfl, ?_⟩) ?_ ?_
              rotate_left
              · intro w'
                go_simp
                with_reducible rfl
              rotate_left
              · simp only [Act.put, List.setIfInBounds_toArray, List.set_cons_zero, List.set_cons_succ, i64_w, i32_w]
                rfl
              refine pure_ (i := 3) (N := some 27) (v := ?_) (a' := ?_) #[false, true, false, true, false, false, false, false, false, false, false, false, false, false, false, false, false, false, false] rfl rfl (by kernel_rfl) (fun _ _ _ h => h) (Or.inl ⟨by rfl, ?_⟩) ?_ ?_
              rotate_left
              · intro w'
                go_simp
                with_reducible rfl
              rotate_left
              · simp only [Act.put, List.setIfInBounds_toArray, List.set_cons_zero, List.set_cons_succ, i64_w, i32_w]
                rfl
              refine pure_ (i := 4) (N := some 28) (v := ?_) (a' := ?_) #[false, true, false, true, true, false, false, false, false, false, false, false, false, false, false, false, false, false, false] rfl rfl (by kernel_rfl) (fun _ _ _ h => h) (Or.inl ⟨by rfl, ?_⟩) ?_ ?_
              rotate_left
              · intro w'
                go_simp
                with_reducible rfl
              rotate_left
              · simp only [Act.put, List.setIfInBounds_toArray, List.set_cons_zero, List.set_cons_succ, i64_w, i32_w]
                rfl
              refine pure_ (i := 5) (N := some 29) (v := ?_) (a' := ?_) #[false, true, false, true, true, true, false, false, false, false, false, false, false, false, false, false, false, false, false] rfl rfl (by kernel_rfl) (fun _ _ _ h => h) (Or.inl ⟨by rfl, ?_⟩) ?_ ?_
              rotate_left
              · intro w'
                go_simp
                with_reducible rfl
              rotate_left
              · simp only [Act.put, List.setIfInBounds_toArray, List.set_cons_zero, List.set_cons_succ, i64_w, i32_w]
                rfl
              refine pure_ (i := 10) (N := some 34) (v := ?_) (a' := ?_) #[false, true, false, true, true, true, false, false, false, false, true, false, false, false, false, false, false, false, false] rfl rfl (by kernel_rfl) (fun _ _ _ h => h) (Or.inl ⟨by rfl, ?_⟩) ?_ ?_
              rotate_left
              · intro w'
                go_simp
                with_reducible rfl
              rotate_left
              · simp only [Act.put, List.setIfInBounds_toArray, List.set_cons_zero, List.set_cons_succ, i64_w, i32_w]
                rfl
              refine pure_ (i := 11) (N := some 35) (v := ?_) (a' := ?_) #[false, true, false, true, true, true, false, false, false, false, true, true, false, false, false, false, false, false, false] rfl rfl (by kernel_rfl) (fun _ _ _ h => h) (Or.inl ⟨by rfl, ?_⟩) ?_ ?_
              rotate_left
              · intro w'
                go_simp
                with_reducible rfl
              rotate_left
              · simp only [Act.put, List.setIfInBounds_toArray, List.set_cons_zero, List.set_cons_succ, i64_w, i32_w]
                rfl
              refine pure_ (i := 12) (N := some 36) (v := ?_) (a' := ?_) #[false, true, false, true, true, true, false, false, false, false, true, true, true, false, false, false, false, false, false] rfl rfl (by kernel_rfl) (fun _ _ _ h => h) (Or.inl ⟨by rfl, ?_⟩) ?_ ?_
              rotate_left
              · intro w'
                go_simp
                with_reducible rfl
              rotate_left
              · simp only [Act.put, List.setIfInBounds_toArray, List.set_cons_zero, List.set_cons_succ, i64_w, i32_w]
                rfl
              refine take_ (i := 0) (N := some 24) (v := ?_) (a' := ?_) #[true, true, false, true, true, true, false, false, false, false, true, true, true, false, false, false, false, false, false] rfl rfl (by kernel_rfl) (fun _ _ _ h => h) (Or.inl ⟨by rfl, ?_⟩) hHeld ?_ ?_
              rotate_left
              · rintro w' ⟨s0, s1⟩
                go_simp
                with_reducible rfl
              rotate_left
              · simp only [Act.put, List.setIfInBounds_toArray, List.set_cons_zero, List.set_cons_succ, i64_w, i32_w]
                rfl
              refine pure_ (i := 2) (N := some 26) (v := ?_) (a' := ?_) #[true, true, true, true, true, true, false, false, false, false, true, true, true, false, false, false, false, false, false] rfl rfl (by kernel_rfl) (fun _ _ _ h => h) (Or.inl ⟨by rfl, ?_⟩) ?_ ?_
              rotate_left
              · intro w'
                go_simp
                with_reducible rfl
              rotate_left
              · simp only [Act.put, List.setIfInBounds_toArray, List.set_cons_zero, List.set_cons_succ, i64_w, i32_w]
                rfl
              refine take_ (i := 6) (N := some 30) (v := ?_) (a' := ?_) #[true, true, true, true, true, true, true, false, false, false, true, true, true, false, false, false, false, false, false] rfl rfl (by kernel_rfl) (fun _ _ _ h => h) (Or.inl ⟨by rfl, ?_⟩) hHeld ?_ ?_
              rotate_left
              · rintro w' ⟨s0, s1⟩
                go_simp
                with_reducible rfl
              rotate_left
              · simp only [Act.put, List.setIfInBounds_toArray, List.set_cons_zero, List.set_cons_succ, i64_w, i32_w]
                rfl
              refine pure_ (i := 7) (N := some 31) (v := ?_) (a' := ?_) #[true, true, true, true, true, true, true, true, false, false, true, true, true, false, false, false, false, false, false] rfl rfl (by kernel_rfl) (fun _ _ _ h => h) (Or.inl ⟨by rfl, ?_⟩) ?_ ?_
              rotate_left
              · intro w'
                go_simp
                with_reducible rfl
              rotate_left
              · simp only [Act.put, List.setIfInBounds_toArray, List.set_cons_zero, List.set_cons_succ, i64_w, i32_w]
                rfl
              refine pure_ (i := 8) (N := some 32) (v := ?_) (a' := ?_) #[true, true, true, true, true, true, true, true, true, false, true, true, true, false, false, false, false, false, false] rfl rfl (by kernel_rfl) (fun _ _ _ h => h) (Or.inl ⟨by rfl, ?_⟩) ?_ ?_
              rotate_left
              · intro w'
                go_simp
                with_reducible rfl
              rotate_left
              · simp only [Act.put, List.setIfInBounds_toArray, List.set_cons_zero, List.set_cons_succ, i64_w, i32_w]
                rfl
              refine pure_ (i := 9) (N := some 33) (v := ?_) (a' := ?_) #[true, true, true, true, true, true, true, true, true, true, true, true, true, false, false, false, false, false, false] rfl rfl (by kernel_rfl) (fun _ _ _ h => h) (Or.inl ⟨by rfl, ?_⟩) ?_ ?_
              rotate_left
              · intro w'
                go_simp
                with_reducible rfl
              rotate_left
              · simp only [Act.put, List.setIfInBounds_toArray, List.set_cons_zero, List.set_cons_succ, i64_w, i32_w]
                rfl
              refine take_ (i := 13) (N := some 37) (v := ?_) (a' := ?_) #[true, true, true, true, true, true, true, true, true, true, true, true, true, true, false, false, false, false, false] rfl rfl (by kernel_rfl) (fun _ _ _ h => h) (Or.inl ⟨by rfl, ?_⟩) hHeld ?_ ?_
              rotate_left
              · rintro w' ⟨s0, s1⟩
                go_simp
                with_reducible rfl
              rotate_left
              · simp only [Act.put, List.setIfInBounds_toArray, List.set_cons_zero, List.set_cons_succ, i64_w, i32_w]
                rfl
              refine pure_ (i := 14) (N := some 38) (v := ?_) (a' := ?_) #[true, true, true, true, true, true, true, true, true, true, true, true, true, true, true, false, false, false, false] rfl rfl (by kernel_rfl) (fun _ _ _ h => h) (Or.inl ⟨by rfl, ?_⟩) ?_ ?_
              rotate_left
              · intro w'
                go_simp
                with_reducible rfl
              rotate_left
              · simp only [Act.put, List.setIfInBounds_toArray, List.set_cons_zero, List.set_cons_succ, i64_w, i32_w]
                rfl
              refine one_ (i := 15) (N := some 39) #[true, true, true, true, true, true, true, true, true, true, true, true, true, true, true, true, false, false, false] rfl rfl (by kernel_rfl) (by decide) (fun K hK => ?_)
              refine Kd.R_lit_step (Kd.int .u8) _ 5 ?hg (N := 39) ?hd (xs := ([(wrap64 (192 + (wrap64 (Int.tdiv pv 256)))) % 256, pv % 256] : List Int)) (inner := [.int .u8 ((wrap64 (192 + (wrap64 (Int.tdiv pv 256)))) % 256), .int .u8 (pv % 256)]) (ok := fun _ => True) (okp := fun _ => True) ?hr ?hp (fun _ hk => hk) trivial (Below.refl _ _) (Nat.le_refl _) (by simp) ?_; (case hd => rfl); (case hg => rfl); (case hr => first | (go_simp; done) | (go_simp; rfl)); (case hp => exact (Reps.one (show Kd.M (Kd.int .u8) _ _ _ ((wrap64 (192 + (wrap64 (Int.tdiv pv 256)))) % 256) [.int .u8 ((wrap64 (192 + (wrap64 (Int.tdiv pv 256)))) % 256)] from rfl) (Reps.one (show Kd.M (Kd.int .u8) _ _ _ (pv % 256) [.int .u8 (pv % 256)] from rfl) (Reps.none _ _))))
              intro vL wL hoL hb hg_ hnew_
              have HS0_ := (hb.cell (World.block_lt_of_cell? _ _ (hHeld.1))).trans (hHeld.1)
              have HS1_ := (hb.cell (World.block_lt_of_cell? _ _ (hHeld.2))).trans (hHeld.2)
              (first | rw [← Ny.out] at hoL | (simp only [Int.reduceToNat] at hoL; rw [← Ny.out] at hoL)); have HLIT := Aside0.mk hoL
              have n4_ := Aside0.mk (below_step BW2.out hb)
              clear BW2
              have BW2 := n4_
              clear n4_ hg_ hnew_ hb hoL
              refine hK.out _ _ ⟨HS0_, HS1_⟩ (fun hHeld => ?_)
              clear hK K
              refine norm_ (a' := ?_) ?_ ?_
              rotate_left
              · show Act.put _ (some 39) _ = _
                simp only [Act.put, List.setIfInBounds_toArray, List.set_cons_zero, List.set_cons_succ, i64_w, i32_w]
                rfl
              refine one_ (i := 16) (N := some 40) #[true, true, true, true, true, true, true, true, true, true, true, true, true, true, true, true, true, false, false] rfl rfl (by kernel_rfl) (by decide) (fun K hK => ?_)
              have hcvL := own_string (P := Tryd.prog) Tryd.underlying44 Tryd.underlying5 Tryd.underlying9 (Kd.own_of_R HLIT.out)
              refine value_ (w1 := ?_) (v := ?_) (by rfl) rfl ?_ ?_
              rotate_left 2
              · go_simp
                constructor
                · rfl
                · rfl
              clear hcvL
              refine hK.out _ _ ⟨hHeld.1, hHeld.2⟩ (fun hHeld => ?_)
              clear hK K
              refine norm_ (a' := ?_) ?_ ?_
              rotate_left
              · show Act.put _ (some 40) _ = _
                simp only [Act.put, List.setIfInBounds_toArray, List.set_cons_zero, List.set_cons_succ, i64_w, i32_w]
                rfl
              refine pure_ (i := 17) (N := some 41) (v := ?_) (a' := ?_) #[true, true, true, true, true, true, true, true, true, true, true, true, true, true, true, true, true, true, false] rfl rfl (by kernel_rfl) (fun _ _ _ h => h) (Or.inl ⟨by rfl, ?_⟩) ?_ ?_
              rotate_left
              · intro w'
                go_simp
                with_reducible rfl
              rotate_left
              · simp only [Act.put, List.setIfInBounds_toArray, List.set_cons_zero, List.set_cons_succ, i64_w, i32_w]
                rfl
              refine pure_ (i := 18) (N := some 4) (v := ?_) (a' := ?_) #[true, true, true, true, true, true, true, true, true, true, true, true, true, true, true, true, true, true, true] rfl rfl (by kernel_rfl) (fun _ _ _ h => h) (Or.inl ⟨by rfl, ?_⟩) ?_ ?_
              rotate_left
              · intro w'
                go_simp
                with_reducible rfl
              rotate_left
              · simp only [Act.put, List.setIfInBounds_toArray, List.set_cons_zero, List.set_cons_succ, i64_w, i32_w]
                rfl
              refine done_ (by kernel_rfl) ?_
              go_wp2
              go_ret
              obtain rfl := Option.some.inj H
              exact ⟨rfl, BW2.out⟩
            · rw [if_neg c4] at H
              cases H
          · rw [if_neg c3] at H
            have c3b : decide (0 ≤ i) = false := decide_eq_false c3
            replace H := Option.bind_eq_some_iff.mp H
            obtain ⟨⟨q1, q2, q3⟩, hcut, H⟩ := H
            replace H : (if ahead.size + q1.size < 1099511627776 then ((impl_parentOf.f rest).bind fun p => impl_putName.l0 k1 b places (ahead ++ (strOfNums [((q1.size : Int)) % 256] ++ q1)) p) else none) = some r := H
            by_cases c4 : ahead.size + q1.size < 1099511627776
            · rw [if_pos c4] at H
              replace H := Option.bind_eq_some_iff.mp H
              obtain ⟨par, hpar, H⟩ := H
              have cutc := fun W => strings_Cut.calls rest (⟨#[46]⟩ : ByteArray) q1 q2 q3 W hcut
              have parc := fun W => impl_parentOf.calls rest par W hpar
              have hcv0 := fun W : World => string_of_reads (P := Tryd.prog) (src := 44) (dst := 9) (c := 1) (w := W.alloc (Obj.cells #[.int .u8 ((q1.size : Int) % 256)] 5)) (A := some ⟨W.heap.size, 0, none⟩) (n := 1) (xs := [(q1.size : Int) % 256]) Tryd.underlying44 Tryd.underlying5 Tryd.underlying9 ⟨rfl, by omega, fun _ => ⟨_, rfl, fun j hj => by
                obtain rfl : j = 0 := by omega
                exact cell_new W _ _⟩⟩
              have hsb : (strOfNums [(q1.size : Int) % 256]).size = 1 := by rw [strOfNums_size]; rfl
              generalize strOfNums [(q1.size : Int) % 256] = sb at H hcv0 hsb
              have c5a := eq_true (show sb.size + q1.size ≤ 9223372036854775807 by omega)
              have c5b : decide (sb.size + q1.size ≤ 9223372036854775807) = true := decide_eq_true (by omega)
              have c5c : (9223372036854775807 < sb.size + q1.size) = False := eq_false (by omega)
              have c6a := eq_true (show ahead.size + (sb.size + q1.size) ≤ 9223372036854775807 by omega)
              have c6b : decide (ahead.size + (sb.size + q1.size) ≤ 9223372036854775807) = true := decide_eq_true (by omega)
              have c6c : (9223372036854775807 < ahead.size + (sb.size + q1.size)) = False := eq_false (by omega)
              clear hsb
              have HN := Aside0.mk H
              clear H
              go_wp2_with (first | (go_at_call 70; refine ic0.mono ?_; rintro e w2 ⟨rfl, hb2⟩; have hb3 := (hb2.cell (World.block_lt_of_cell? _ _ hb0)).trans hb0; have hr3 := (hb2.cell (World.block_lt_of_cell? _ _ hr0)).trans hr0; have BW2 := below_then BW.out BW.out.size hb2; have HC2 := Aside0.mk (Kd.C_below HC.out hb2)) | (go_at_call 72; refine (cutc _).mono ?_; rintro e w3_ ⟨rfl, ⟨nd, rfl⟩⟩; have hbd := pw_below_drewN (Below.refl w2.heap.size w2) nd; have hb4 := (hbd.cell (World.block_lt_of_cell? _ _ hb3)).trans hb3; have hr4 := (hbd.cell (World.block_lt_of_cell? _ _ hr3)).trans hr3; have BW3 := Aside0.mk (pw_below_drewN BW2 nd); have HC3 := Aside0.mk (Kd.C_below HC2.out hbd); clear hbd; generalize w2.drewN nd = w3 at hb4 hr4 BW3 HC3 ⊢; have hr5 := (World.cell?_alloc_lt w3 (Obj.cells #[.int .u8 ((q1.size : Int) % 256)] 5) _ (World.block_lt_of_cell? _ _ hr4)).trans hr4; have hcv := hcv0 w3) | (go_at_call 69; refine (parc _).mono ?_; rintro e w5_ ⟨rfl, ⟨nd5, rfl⟩⟩))
              obtain ⟨nx1, nx2⟩ := put_next w3 (Obj.cells #[.int .u8 ((q1.size : Int) % 256)] 5) rest par 9 nd5
              go_roundg k1
              case measure => have := HK1.out; omega
              case rel => exact ⟨ahead ++ (sb ++ q1), par, w3.heap.size + 1, rfl, rfl, HN, ⟨by have := HK1.out; omega⟩, ⟨Kd.C_below HC3.out nx1⟩, ⟨(nx1.cell (World.block_lt_of_cell? _ _ hb4)).trans hb4⟩, ⟨nx2⟩, ⟨by have := BW3.out.size; omega⟩, ⟨below_then BW3.out BW3.out.size nx1⟩⟩
            · rw [if_neg c4] at H
              cases H
        · rw [if_neg c2] at H
          cases H

theorem putDef_more {k : Nat} {b : ByteArray} {places : List Int} (h : putDef k b places = true) (rest : ByteArray) : putDef (k + 1) b places = true ∧ ∀ x ∈ places, putP (k + 1) b rest x = putP k b rest x := by
  have each : ∀ x ∈ places, impl_takeName.f (k + 1) b x = impl_takeName.f k b x := by
    intro x hx
    obtain ⟨t, ht⟩ := Option.isSome_iff_exists.1 (List.all_eq_true.1 h x hx)
    rw [ht]
    exact impl_takeName.mono _ _ _ _ ht
  refine ⟨List.all_eq_true.2 fun x hx => ?_, fun x hx => ?_⟩
  · rw [each x hx]
    exact List.all_eq_true.1 h x hx
  · unfold putP
    rw [each x hx]
theorem idxP_congr {α : Type} (p q : α → Bool) : ∀ (xs : List α) (i : Int), (∀ x ∈ xs, p x = q x) → idxP p xs i = idxP q xs i
  | [], i, _ => rfl
  | x :: xs, i, h => by
    unfold idxP
    rw [h x List.mem_cons_self, idxP_congr p q xs (i + 1) fun y hy => h y (List.mem_cons_of_mem _ hy)]
theorem impl_putName.mono_l : ∀ (k : Nat) (b : ByteArray) (places : List Int) (ahead rest : ByteArray), LeO (impl_putName.l0 k b places ahead rest) (impl_putName.l0 (k + 1) b places ahead rest)
  | 0, b, places, ahead, rest => fun r h => by simp [impl_putName.l0] at h
  | k + 1, b, places, ahead, rest => by
    intro r h
    conv => lhs; unfold impl_putName.l0
    conv at h => lhs; unfold impl_putName.l0
    by_cases c1 : rest.toList = ([] : List UInt8)
    · rw [if_pos c1] at h ⊢
      exact h
    · rw [if_neg c1] at h ⊢
      by_cases c2 : putDef k b places = true
      · obtain ⟨d1, d2⟩ := putDef_more c2 rest
        rw [if_pos c2] at h
        rw [if_pos d1, idxP_congr _ _ places 0 d2]
        by_cases c3 : 0 ≤ idxP (putP k b rest) places 0
        · rw [if_pos c3] at h ⊢
          exact h
        · rw [if_neg c3] at h ⊢
          obtain ⟨c, hc, h⟩ := Option.bind_eq_some_iff.mp h
          rw [hc, Option.bind_some]
          by_cases c4 : ahead.size + c.1.size < 1099511627776
          · rw [if_pos c4] at h ⊢
            obtain ⟨p, hp, h⟩ := Option.bind_eq_some_iff.mp h
            rw [hp, Option.bind_some]
            exact impl_putName.mono_l k b places _ p r h
          · rw [if_neg c4] at h
            cases h
      · rw [if_neg c2] at h
        cases h
theorem impl_putName.mono : ∀ a0 a1 k, LeO (impl_putName.f k a0 a1) (impl_putName.f (k + 1) a0 a1) := by
  intro a0 a1 k r h
  unfold impl_putName.f at h ⊢
  obtain ⟨p, hp, h⟩ := Option.bind_eq_some_iff.mp h
  rw [impl_suffixesOf.mono _ _ _ hp, Option.bind_some]
  exact impl_putName.mono_l k a0 p _ a1 r h
theorem impl_putName.calls (k : Nat) (a0 : ByteArray) (a1 : ByteArray) (r : ByteArray) (w : World) (h : impl_putName.f k a0 a1 = some r) :
    Calls Tryd.prog 49 #[.string a0, .string a1] w fun e w' => e = .returned (.string r) ∧ Below w.heap.size w w' := by
  unfold impl_putName.f at h
  obtain ⟨p, hp, h⟩ := Option.bind_eq_some_iff.mp h
  exact put_walk k a0 a1 p r w hp h
end Go.Proofs.YtomcfhbmdoomlaaDoor.P

-- F51
-- By my own call of the kit's print (wip/tools/pp.py).
namespace Go.Proofs.YtomcfhbmdoomlaaDoor.P
open Go.RowKit Go.Proofs.YtomcfhbmdoomlaaDoorW.PrintWords Go.Proofs.YtomcfhbmdoomlaaDoorW.PrintLast Go.Proofs.YtomcfhbmdoomlaaDoorW.PrintMore
attribute [local go_sem] max2_int min2_int max_two min_two max_three min_three max_four min_four
set_option linter.unusedVariables false
set_option linter.unusedSimpArgs false

/-! ### impl_packed: function 51 -/
def impl_packed.l0 : Nat → ByteArray → List ByteArray → Int → Int → Option (ByteArray × Bool)
  | 0, _, _, _, _ => none
  | k + 1, x4, x7, x8, x9 => if x9 < x8 then (if 0 ≤ x9 then (if x9 < (x7.length : Int) then ((impl_putName.f k x4 (rdOf ByteArray.empty x7 x9)).bind fun t306 => (if (t306.size : Int) > 600 then (some ((⟨#[]⟩ : ByteArray), false)) else (impl_packed.l0 k t306 x7 x8 (wrap64 (x9 + 1))))) else (none)) else (none)) else (some (x4, true))
def impl_packed.f (k : Nat) (l0 : List ByteArray) : Option (ByteArray × Bool) := impl_packed.l0 k (⟨#[]⟩ : ByteArray) l0 (l0.length : Int) 0
theorem impl_packed.mono_l : ∀ k, (∀ y0 y1 y2 y3, LeO (impl_packed.l0 k y0 y1 y2 y3) (impl_packed.l0 (k + 1) y0 y1 y2 y3))
  | 0 => fun _ _ _ _ r h => by simp [impl_packed.l0] at h
  | k + 1 => by
    have ih0 := impl_packed.mono_l k
    · intro y0 y1 y2 y3
      unfold impl_packed.l0
      repeat' first
      | (with_reducible exact ih0 _ _ _ _)
      | (with_reducible exact impl_putName.mono _ _ _)
      | (with_reducible exact LeO.refl _)
      | (with_reducible exact LeO.none _)
      | (with_reducible refine LeO.ite ?_ ?_)
      | (with_reducible refine LeO.bind ?_ (fun _ => ?_))
      | exact ih0 _ _ _ _
      | exact impl_putName.mono _ _ _
      | exact LeO.none _
      | refine LeO.ite ?_ ?_
      | refine LeO.bind ?_ (fun _ => ?_)
theorem impl_packed.mono : ∀ a0 k, LeO (impl_packed.f k a0) (impl_packed.f (k + 1) a0) := by
  intro a0 k
  have ih0 := impl_packed.mono_l k
  unfold impl_packed.f
  repeat' first
      | (with_reducible exact ih0 _ _ _ _)
      | (with_reducible exact impl_putName.mono _ _ _)
      | (with_reducible exact LeO.refl _)
      | (with_reducible exact LeO.none _)
      | (with_reducible refine LeO.ite ?_ ?_)
      | (with_reducible refine LeO.bind ?_ (fun _ => ?_))
      | exact ih0 _ _ _ _
      | exact impl_putName.mono _ _ _
      | exact LeO.none _
      | refine LeO.ite ?_ ?_
      | refine LeO.bind ?_ (fun _ => ?_)
set_option maxHeartbeats 8000000 in
set_option maxRecDepth 100000 in
theorem impl_packed.calls (k : Nat) (A0 : Option Addr) (c0 : Nat) (l0 : List ByteArray) (r1 : ByteArray) (r2 : Bool) (w : World) (hr0 : Kd.C Kd.string w A0 l0.length l0) (hc0 : l0.length ≤ c0) (h : impl_packed.f k l0 = some (r1, r2)) :
    Calls Tryd.prog 51 #[.slice A0 l0.length c0] w fun e w' => e = .returned (.tuple #[.string r1, .bool r2]) ∧ Below w.heap.size w w' := by
  have HR0 := Aside0.mk hr0
  have HC0 := Aside0.mk hc0
  clear hr0 hc0
  have HB := Aside0.mk (Below.refl w.heap.size w)
  have H : (impl_packed.l0 k (⟨#[]⟩ : ByteArray) l0 (l0.length : Int) 0) = some (r1, r2) := h
  clear h
  have H' := Aside0.mk H
  clear H
  go_enter Tryd.func51, Tryd.ntmps51
  go_wp2
  go_loopg [4, 9] k (fun kq v4 v9 w' => ∃ (x4_1 : ByteArray) (x9_1 : Int), v4 = .string x4_1 ∧ v9 = .int .i64 x9_1 ∧ Aside0 (impl_packed.l0 kq x4_1 l0 (l0.length : Int) x9_1 = some (r1, r2)) ∧ Aside0 (kq ≤ k) ∧ Aside0 (Below w.heap.size w w'))
  case atStart => exact ⟨((⟨#[]⟩ : ByteArray)), (0), (by first | rfl | (simp; done) | (simp [*]; done)), (by first | rfl | (simp; done) | (simp [*]; done)), H', ⟨Nat.le_refl _⟩, ⟨by repeat (first | (with_reducible first | exact HB.out | apply below_alloc | apply pw_below_drewN | apply below_drew1) | exact HB.out)⟩⟩
  case round =>
    clear H'
    obtain ⟨x4_1, x9_1, rfl, rfl, HA, HK1, HB⟩ := hrel
    cases gk with
    | zero => exact absurd HA.out (by simp [impl_packed.l0])
    | succ k1 =>
      have H := HA.out
      clear HA
      simp only [impl_packed.l0] at H
      by_cases c2 : x9_1 < (l0.length : Int)
      · rw [if_pos c2] at H
        have c2b0 : decide (x9_1 < (l0.length : Int)) = true := decide_eq_true c2
        clear c2
        by_cases c3 : 0 ≤ x9_1
        · rw [if_pos c3] at H
          have c3b0 : decide (0 ≤ x9_1) = true := decide_eq_true c3
          clear c3
          by_cases c4 : x9_1 < (l0.length : Int)
          · rw [if_pos c4] at H
            have c4b0 : decide (x9_1 < (l0.length : Int)) = true := decide_eq_true c4
            clear c4
            replace H := Option.bind_eq_some_iff.mp H
            obtain ⟨t306, A50, H⟩ := H
            replace H : (if (t306.size : Int) > 600 then (some ((⟨#[]⟩ : ByteArray), false)) else (impl_packed.l0 k1 t306 l0 (l0.length : Int) (wrap64 (x9_1 + 1)))) = some (r1, r2) := H
            have A5 := Aside0.mk A50
            clear A50
            by_cases c6 : (t306.size : Int) > 600
            · rw [if_pos c6] at H
              have c6b0 : decide (600 < (t306.size : Int)) = true := decide_eq_true c6
              have c6b1 : decide (600 < t306.size) = true := decide_eq_true (by omega)
              clear c6
              simp only [Option.some.injEq, Prod.mk.injEq] at H
              obtain ⟨rfl, rfl⟩ := H
              have p305 : 0 ≤ (x9_1 : Int) := of_decide_eq_true (by first | (with_reducible assumption) | assumption)
              have q305 : x9_1 < (l0.length : Int) := of_decide_eq_true (by first | (with_reducible assumption) | assumption)
              obtain ⟨ad305, e305, hx305_0⟩ := Kd.at_string HR0.out x9_1 p305 q305
              cases e305
              replace hx305_0 := (HB.out.cell (World.block_lt_of_cell? w _ hx305_0)).trans hx305_0
              replace p305 := eq_true p305
              replace q305 := eq_true q305
              go_wp2_with (first | ((with_reducible refine gate_callee (f := 49) rfl ?_); refine goesL_ (some 15) rfl rfl Tryd.func49 (by kernel_rfl) rfl #[.string x4_1, .string (rdOf ByteArray.empty l0 x9_1)] rfl (by (try simp only [List.map_toArray, List.map_cons, List.map_nil]); first | done | rfl | (simp only [List.length_drop, List.length_take]; rfl)) ?_; (with_reducible refine (impl_putName.calls k1 x4_1 (rdOf ByteArray.empty l0 x9_1) t306 _ A5.out).mono ?_); rintro e w7 ⟨rfl, hb⟩; refine ⟨_, rfl, ?_⟩; have n0_ := Aside0.mk (below_step (by repeat (first | (with_reducible first | exact HB.out | apply below_alloc | apply pw_below_drewN | apply below_drew1) | exact HB.out)) hb); clear HB; have HB := n0_; clear n0_; (try clear hb); (try clear hb2); (try clear hk); (try clear hi)))
              go_ret2
              exact ⟨by first | rfl | (simp [errW_none, errW_some] <;> rfl) | (simp [*, errW_none, errW_some] <;> rfl), by repeat (first | (with_reducible first | exact HB.out | apply below_alloc | apply pw_below_drewN | apply below_drew1) | exact HB.out)⟩
            · rw [if_neg c6] at H
              have c6b0 : decide (600 < (t306.size : Int)) = false := decide_eq_false c6
              have c6b1 : decide (600 < t306.size) = false := decide_eq_false (by omega)
              clear c6
              have H' := Aside0.mk H
              clear H
              have p305 : 0 ≤ (x9_1 : Int) := of_decide_eq_true (by first | (with_reducible assumption) | assumption)
              have q305 : x9_1 < (l0.length : Int) := of_decide_eq_true (by first | (with_reducible assumption) | assumption)
              obtain ⟨ad305, e305, hx305_0⟩ := Kd.at_string HR0.out x9_1 p305 q305
              cases e305
              replace hx305_0 := (HB.out.cell (World.block_lt_of_cell? w _ hx305_0)).trans hx305_0
              replace p305 := eq_true p305
              replace q305 := eq_true q305
              go_wp2_with (first | ((with_reducible refine gate_callee (f := 49) rfl ?_); refine goesL_ (some 15) rfl rfl Tryd.func49 (by kernel_rfl) rfl #[.string x4_1, .string (rdOf ByteArray.empty l0 x9_1)] rfl (by (try simp only [List.map_toArray, List.map_cons, List.map_nil]); first | done | rfl | (simp only [List.length_drop, List.length_take]; rfl)) ?_; (with_reducible refine (impl_putName.calls k1 x4_1 (rdOf ByteArray.empty l0 x9_1) t306 _ A5.out).mono ?_); rintro e w8 ⟨rfl, hb⟩; refine ⟨_, rfl, ?_⟩; have n0_ := Aside0.mk (below_step (by repeat (first | (with_reducible first | exact HB.out | apply below_alloc | apply pw_below_drewN | apply below_drew1) | exact HB.out)) hb); clear HB; have HB := n0_; clear n0_; (try clear hb); (try clear hb2); (try clear hk); (try clear hi)))
              go_roundg k1
              case measure => have := HK1.out; omega
              case rel => exact ⟨(t306), (wrap64 (x9_1 + 1)), (by first | rfl | (simp; done) | (simp [*]; done)), (by first | rfl | (simp; done) | (simp [*]; done)), H', ⟨by have := HK1.out; omega⟩, ⟨by repeat (first | (with_reducible first | exact HB.out | apply below_alloc | apply pw_below_drewN | apply below_drew1) | exact HB.out)⟩⟩
          · rw [if_neg c4] at H
            exact absurd H (by simp)
        · rw [if_neg c3] at H
          exact absurd H (by simp)
      · rw [if_neg c2] at H
        have c2b0 : decide (x9_1 < (l0.length : Int)) = false := decide_eq_false c2
        clear c2
        simp only [Option.some.injEq, Prod.mk.injEq] at H
        obtain ⟨rfl, rfl⟩ := H
        go_wp2
        go_ret2
        exact ⟨by first | rfl | (simp [errW_none, errW_some] <;> rfl) | (simp [*, errW_none, errW_some] <;> rfl), by repeat (first | (with_reducible first | exact HB.out | apply below_alloc | apply pw_below_drewN | apply below_drew1) | exact HB.out)⟩

end Go.Proofs.YtomcfhbmdoomlaaDoor.P

-- F73
-- By my own call of the kit's print (wip/tools/pp.py).
namespace Go.Proofs.YtomcfhbmdoomlaaDoor.P
open Go.RowKit Go.Proofs.YtomcfhbmdoomlaaDoorW.PrintWords Go.Proofs.YtomcfhbmdoomlaaDoorW.PrintLast Go.Proofs.YtomcfhbmdoomlaaDoorW.PrintMore
attribute [local go_sem] max2_int min2_int max_two min_two max_three min_three max_four min_four
set_option linter.unusedVariables false
set_option linter.unusedSimpArgs false

/-! ### impl_areNames_1: function 73 -/
def impl_areNames_1.f (a0 : ByteArray) : Option (Bool) := (impl_GoodName.f a0).bind fun t568 => (some (!t568))
set_option maxHeartbeats 8000000 in
set_option maxRecDepth 100000 in
theorem impl_areNames_1.calls (a0 : ByteArray) (r : Bool) (w : World) (h : impl_areNames_1.f a0 = some r) :
    Calls Tryd.prog 73 #[.string a0] w fun e w' => e = .returned (.bool r) ∧ Below w.heap.size w w' := by
  have HB := Aside0.mk (Below.refl w.heap.size w)
  have H : ((impl_GoodName.f a0).bind fun t568 => (some (!t568))) = some r := h
  clear h
  replace H := Option.bind_eq_some_iff.mp H
  obtain ⟨t568, A20, H⟩ := H
  replace H : (some (!t568)) = some r := H
  have A2 := Aside0.mk A20
  clear A20
  obtain rfl := Option.some.inj H
  go_enter Tryd.func73, Tryd.ntmps73
  go_wp2_with (first | ((with_reducible refine gate_callee (f := 35) rfl ?_); refine goesL_ (some 4) rfl rfl Tryd.func35 (by kernel_rfl) rfl #[.string a0] rfl (by (try simp only [List.map_toArray, List.map_cons, List.map_nil]); first | done | rfl | (simp only [List.length_drop, List.length_take]; rfl)) ?_; (with_reducible refine (impl_GoodName.calls a0 t568 _ A2.out).mono ?_); rintro e w3 ⟨rfl, hb⟩; refine ⟨_, rfl, ?_⟩; have n0_ := Aside0.mk (below_step (by repeat (first | (with_reducible first | exact HB.out | apply below_alloc | apply pw_below_drewN | apply below_drew1) | exact HB.out)) hb); clear HB; have HB := n0_; clear n0_; (try clear hb); (try clear hb2); (try clear hk); (try clear hi)))
  go_ret
  exact ⟨by first | rfl | (simp [errW_none, errW_some] <;> rfl) | (simp [*, errW_none, errW_some] <;> rfl), by repeat (first | (with_reducible first | exact HB.out | apply below_alloc | apply pw_below_drewN | apply below_drew1) | exact HB.out)⟩

end Go.Proofs.YtomcfhbmdoomlaaDoor.P

-- HAre
/- impl.areNames: it holds just where each text is a name (goodL). Conditions: none. -/
namespace Go.Proofs.YtomcfhbmdoomlaaDoor.P
open Go.RowKit Go.Proofs.YtomcfhbmdoomlaaDoorW.PrintWords Go.Proofs.YtomcfhbmdoomlaaDoorW.PrintLast Go.Proofs.YtomcfhbmdoomlaaDoorW.PrintMore
set_option linter.unusedVariables false
def impl_areNames.f (l : List ByteArray) : Option Bool := some (l.all fun x => goodL x.data.toList)

theorem are_closure (x : ByteArray) (W : World) : Calls Tryd.prog 73 #[.string x] W fun e W' => e = .returned (.bool (!goodL x.data.toList)) ∧ Below W.heap.size W W' :=
  impl_areNames_1.calls x _ W (by unfold impl_areNames_1.f impl_GoodName.f; rfl)

set_option maxHeartbeats 4000000 in
theorem impl_areNames.calls (A0 : Option Addr) (c0 : Nat) (l0 : List ByteArray) (r : Bool) (w : World) (hr0 : Kd.C Kd.string w A0 l0.length l0) (hc0 : l0.length ≤ c0) (h : impl_areNames.f l0 = some r) :
    Calls Tryd.prog 50 #[.slice A0 l0.length c0] w fun e w' => e = .returned (.bool r) ∧ Below w.heap.size w w' := by
  obtain rfl := Option.some.inj h
  clear h
  have eg : ∀ args w, (callFunc 73 args).run Tryd.prog w = .ok (.enter 73 args) w := enters_of Tryd.func73 (by kernel_rfl) rfl
  have cc := contains_str A0 c0 l0 73 #[] (fun x => !goodL x.data.toList) w hr0 eg (fun x _ W' _ => are_closure x W')
  have hany : l0.any (fun x => !goodL x.data.toList) = !l0.all (fun x => goodL x.data.toList) := by rw [List.not_all_eq_any_not]
  rw [hany] at cc
  generalize l0.all (fun x => goodL x.data.toList) = b at cc
  go_enter Tryd.func50, Tryd.ntmps50
  go_wp2_with (go_at_call 58; refine cc.mono ?_; rintro e w1 ⟨rfl, hb⟩)
  go_ret
  exact ⟨by simp, hb⟩
end Go.Proofs.YtomcfhbmdoomlaaDoor.P

-- F28
-- By my own call of the kit's print (wip/tools/pp.py).
namespace Go.Proofs.YtomcfhbmdoomlaaDoor.P
open Go.RowKit Go.Proofs.YtomcfhbmdoomlaaDoorW.PrintWords Go.Proofs.YtomcfhbmdoomlaaDoorW.PrintLast Go.Proofs.YtomcfhbmdoomlaaDoorW.PrintMore
attribute [local go_sem] max2_int min2_int max_two min_two max_three min_three max_four min_four
set_option linter.unusedVariables false
set_option linter.unusedSimpArgs false

/-! ### impl_PackNames: function 28 -/
def impl_PackNames.f (k : Nat) (l0 : List ByteArray) : Option (ByteArray × Bool) := if (l0.length : Int) > 20 then (some ((⟨#[]⟩ : ByteArray), false)) else ((impl_areNames.f l0).bind fun t307 => (if t307 = true then ((impl_packed.f k l0).bind fun bt308 => (some (bt308.1, bt308.2))) else (some ((⟨#[]⟩ : ByteArray), false))))
theorem impl_PackNames.mono : ∀ a0 k, LeO (impl_PackNames.f k a0) (impl_PackNames.f (k + 1) a0) := by
  intro a0 k
  unfold impl_PackNames.f
  repeat' first
      | (with_reducible exact impl_packed.mono _ _)
      | (with_reducible exact LeO.refl _)
      | (with_reducible exact LeO.none _)
      | (with_reducible refine LeO.ite ?_ ?_)
      | (with_reducible refine LeO.bind ?_ (fun _ => ?_))
      | exact impl_packed.mono _ _
      | exact LeO.none _
      | refine LeO.ite ?_ ?_
      | refine LeO.bind ?_ (fun _ => ?_)
set_option maxHeartbeats 8000000 in
set_option maxRecDepth 100000 in
theorem impl_PackNames.calls (k : Nat) (A0 : Option Addr) (c0 : Nat) (l0 : List ByteArray) (r1 : ByteArray) (r2 : Bool) (w : World) (hr0 : Kd.C Kd.string w A0 l0.length l0) (hc0 : l0.length ≤ c0) (h : impl_PackNames.f k l0 = some (r1, r2)) :
    Calls Tryd.prog 28 #[.slice A0 l0.length c0] w fun e w' => e = .returned (.tuple #[.string r1, .bool r2]) ∧ Below w.heap.size w w' := by
  have HR0 := Aside0.mk hr0
  have HC0 := Aside0.mk hc0
  clear hr0 hc0
  have HB := Aside0.mk (Below.refl w.heap.size w)
  have H : (if (l0.length : Int) > 20 then (some ((⟨#[]⟩ : ByteArray), false)) else ((impl_areNames.f l0).bind fun t307 => (if t307 = true then ((impl_packed.f k l0).bind fun bt308 => (some (bt308.1, bt308.2))) else (some ((⟨#[]⟩ : ByteArray), false))))) = some (r1, r2) := h
  clear h
  by_cases c2 : (l0.length : Int) > 20
  · rw [if_pos c2] at H
    have c2b0 : decide (20 < (l0.length : Int)) = true := decide_eq_true c2
    have c2b1 : decide (20 < l0.length) = true := decide_eq_true (by omega)
    clear c2
    simp only [Option.some.injEq, Prod.mk.injEq] at H
    obtain ⟨rfl, rfl⟩ := H
    go_enter Tryd.func28, Tryd.ntmps28
    go_wp2
    go_ret2
    exact ⟨by first | rfl | (simp [errW_none, errW_some] <;> rfl) | (simp [*, errW_none, errW_some] <;> rfl), by repeat (first | (with_reducible first | exact HB.out | apply below_alloc | apply pw_below_drewN | apply below_drew1) | exact HB.out)⟩
  · rw [if_neg c2] at H
    have c2b0 : decide (20 < (l0.length : Int)) = false := decide_eq_false c2
    have c2b1 : decide (20 < l0.length) = false := decide_eq_false (by omega)
    clear c2
    replace H := Option.bind_eq_some_iff.mp H
    obtain ⟨t307, A30, H⟩ := H
    replace H : (if t307 = true then ((impl_packed.f k l0).bind fun bt308 => (some (bt308.1, bt308.2))) else (some ((⟨#[]⟩ : ByteArray), false))) = some (r1, r2) := H
    have A3 := Aside0.mk A30
    clear A30
    by_cases c4 : t307 = true
    · subst c4
      have H1 : ((impl_packed.f k l0).bind fun bt308 => (some (bt308.1, bt308.2))) = some (r1, r2) := by rw [if_pos rfl] at H; exact H
      clear H
      have H := H1
      clear H1
      replace H := Option.bind_eq_some_iff.mp H
      obtain ⟨⟨t308, t309⟩, A50, H⟩ := H
      replace H : (some (t308, t309)) = some (r1, r2) := H
      have A5 := Aside0.mk A50
      clear A50
      simp only [Option.some.injEq, Prod.mk.injEq] at H
      obtain ⟨rfl, rfl⟩ := H
      go_enter Tryd.func28, Tryd.ntmps28
      go_wp2_with (first | (go_at_call 50; (with_reducible refine (impl_areNames.calls _ _ l0 true _ ?side1 ?side2 A3.out).mono ?_); (case side1 => repeat (first | exact HR0.out | (with_reducible refine Kd.C_alloc ?_ _) | (with_reducible refine Kd.C_drewN ?_ _) | (with_reducible refine Kd.C_drew ?_))); (case side2 => exact HC0.out); rintro e w6 ⟨rfl, hb⟩; have n0_ := Aside0.mk (below_step (by repeat (first | (with_reducible first | exact HB.out | apply below_alloc | apply pw_below_drewN | apply below_drew1) | exact HB.out)) hb); clear HB; have HB := n0_; clear n0_; (try clear hb); (try clear hb2); (try clear hk); (try clear hi)) | ((with_reducible refine gate_callee (f := 51) rfl ?_); refine goesL_ (some 13) rfl rfl Tryd.func51 (by kernel_rfl) rfl #[.slice A0 l0.length c0] rfl (by (try simp only [List.map_toArray, List.map_cons, List.map_nil]); first | done | rfl | (simp only [List.length_drop, List.length_take]; rfl)) ?_; (with_reducible refine (impl_packed.calls k _ _ l0 t308 t309 _ ?side1 ?side2 A5.out).mono ?_); (case side1 => repeat (first | exact (Kd.C_below HR0.out HB.out) | (with_reducible refine Kd.C_alloc ?_ _) | (with_reducible refine Kd.C_drewN ?_ _) | (with_reducible refine Kd.C_drew ?_))); (case side2 => exact HC0.out); rintro e w7 ⟨rfl, hb⟩; refine ⟨_, rfl, ?_⟩; have n0_ := Aside0.mk (below_step (by repeat (first | (with_reducible first | exact HB.out | apply below_alloc | apply pw_below_drewN | apply below_drew1) | exact HB.out)) hb); clear HB; have HB := n0_; clear n0_; (try clear hb); (try clear hb2); (try clear hk); (try clear hi)))
      go_ret2
      exact ⟨by first | rfl | (simp [errW_none, errW_some] <;> rfl) | (simp [*, errW_none, errW_some] <;> rfl), by repeat (first | (with_reducible first | exact HB.out | apply below_alloc | apply pw_below_drewN | apply below_drew1) | exact HB.out)⟩
    · replace c4 := Bool.eq_false_iff.mpr c4
      subst c4
      have H1 : (some ((⟨#[]⟩ : ByteArray), false)) = some (r1, r2) := by rw [if_neg (show ¬ (false = true) by decide)] at H; exact H
      clear H
      have H := H1
      clear H1
      simp only [Option.some.injEq, Prod.mk.injEq] at H
      obtain ⟨rfl, rfl⟩ := H
      go_enter Tryd.func28, Tryd.ntmps28
      go_wp2_with (first | (go_at_call 50; (with_reducible refine (impl_areNames.calls _ _ l0 false _ ?side1 ?side2 A3.out).mono ?_); (case side1 => repeat (first | exact HR0.out | (with_reducible refine Kd.C_alloc ?_ _) | (with_reducible refine Kd.C_drewN ?_ _) | (with_reducible refine Kd.C_drew ?_))); (case side2 => exact HC0.out); rintro e w8 ⟨rfl, hb⟩; have n0_ := Aside0.mk (below_step (by repeat (first | (with_reducible first | exact HB.out | apply below_alloc | apply pw_below_drewN | apply below_drew1) | exact HB.out)) hb); clear HB; have HB := n0_; clear n0_; (try clear hb); (try clear hb2); (try clear hk); (try clear hi)))
      go_ret2
      exact ⟨by first | rfl | (simp [errW_none, errW_some] <;> rfl) | (simp [*, errW_none, errW_some] <;> rfl), by repeat (first | (with_reducible first | exact HB.out | apply below_alloc | apply pw_below_drewN | apply below_drew1) | exact HB.out)⟩

end Go.Proofs.YtomcfhbmdoomlaaDoor.P
