/- FnSets: part 4 of 15 of my texts for this claim, joined; the theorem stands in the last. Conditions: none beyond the statement's. -/
import Derived.Test.YtiegkjimpclmaaaGreatDoorMFnSetsx2
open Go.RowKit Go.Proofs.YtiegkjimpclmaaaGreatDoorW.PrintWords Go.Proofs.YtiegkjimpclmaaaGreatDoorW.PrintLast Go.Proofs.YtiegkjimpclmaaaGreatDoorW.PrintMore
set_option linter.unusedVariables false
set_option linter.unusedSimpArgs false
set_option maxHeartbeats 8000000
set_option maxRecDepth 100000
namespace Go.Proofs.YtiegkjimpclmaaaGreatDoor.P
attribute [local go_sem] max2_int min2_int max_two min_two max_three min_three max_four min_four
def IsS117 (w0 W : World) (g : Nat) (f0 : List Int) (f1 : Int) (f2 : Int) : Prop := ∃ A0 c0, W.heap[g]? = some (.cells #[.slice A0 f0.length c0, .int .i64 f1, .int .u64 f2] 117 (0, 0)) ∧ w0.heap.size ≤ g ∧ Kd.C (Kd.int .u8) w0 A0 f0.length f0
theorem IsS117.grown {w0 W : World} {g : Nat} {f0 : List Int} {f1 : Int} {f2 : Int} {W1 : World} {row : Option Nat} (h : IsS117 w0 W g f0 f1 f2) (hw : W.grownBy W1 row) (hne : some g ≠ row) : IsS117 w0 W1 g f0 f1 f2 := by
 obtain ⟨A0, c0, hb, hg, hr0⟩ := h
 exact ⟨A0, c0, blk_grown hb hw hne, hg, hr0⟩
theorem IsS117.kept {w0 W : World} {g : Nat} {f0 : List Int} {f1 : Int} {f2 : Int} {W1 : World} {S : Nat → Prop} (h : IsS117 w0 W g f0 f1 f2) (hk : Kept W W1 S) (hne : ¬ S g) : IsS117 w0 W1 g f0 f1 f2 := by
 obtain ⟨A0, c0, hb, hg, hr0⟩ := h
 exact ⟨A0, c0, blk_kept hb hk hne, hg, hr0⟩
theorem IsS117.below {w0 W : World} {g : Nat} {f0 : List Int} {f1 : Int} {f2 : Int} {W1 : World} (h : IsS117 w0 W g f0 f1 f2) (hw : Below W.heap.size W W1) : IsS117 w0 W1 g f0 f1 f2 := h.grown (grown_of_below hw none) (by simp)
theorem IsS117.alloc {w0 W : World} {g : Nat} {f0 : List Int} {f1 : Int} {f2 : Int} (h : IsS117 w0 W g f0 f1 f2) (o : Obj) : IsS117 w0 (W.alloc o) g f0 f1 f2 := h.below (below_alloc (Below.refl _ _) o)
theorem IsS117.drewN {w0 W : World} {g : Nat} {f0 : List Int} {f1 : Int} {f2 : Int} (h : IsS117 w0 W g f0 f1 f2) (m : Nat) : IsS117 w0 (W.drewN m) g f0 f1 f2 := h
theorem IsS117.drew {w0 W : World} {g : Nat} {f0 : List Int} {f1 : Int} {f2 : Int} (h : IsS117 w0 W g f0 f1 f2) : IsS117 w0 W.drew g f0 f1 f2 := h
theorem IsS117.at_ {w0 W : World} {g : Nat} {f0 : List Int} {f1 : Int} {f2 : Int} {w' : World} {m : Nat} (hq : W.drewN m = w') (h : IsS117 w0 W g f0 f1 f2) : IsS117 w0 w' g f0 f1 f2 := by subst hq; exact IsS117.drewN h m
theorem IsS117.apart {w0 W : World} {g : Nat} {f0 : List Int} {f1 : Int} {f2 : Int} {α : Type} {d : Kd α} {e : Nat} {base : Nat} {ok : Nat → Prop} {v : Value} {xs : List α} (h : IsS117 w0 W g f0 f1 f2) (ho : d.R e W base ok v xs) (ht : ∀ q, q ∈ e :: d.E → q ≠ 117) : d.R e W base (fun k => ok k ∧ k ≠ g) v xs := by
 obtain ⟨A0, c0, hb, hg, hr0⟩ := h
 exact Kd.R_types ho hb ht
theorem IsS117.own_ne {w0 W : World} {g : Nat} {f0 : List Int} {f1 : Int} {f2 : Int} {α : Type} {d : Kd α} {e : Nat} {base : Nat} {ok : Nat → Prop} {v : Value} {xs : List α} (h : IsS117 w0 W g f0 f1 f2) (ho : d.R e W base ok v xs) (ht : e ≠ 117) : some g ≠ v.ownBlock := by
 obtain ⟨A0, c0, hb, hg, hr0⟩ := h
 exact Kd.R_ne ho hb ht
theorem IsS117.apartS {w0 W : World} {g : Nat} {f0 : List Int} {f1 : Int} {f2 : Int} {α : Type} {d : Kd α} {e : Nat} {base : Nat} {ok : Nat → Prop} {v : Value} {xs : List α} (h : IsS117 w0 W g f0 f1 f2) (ho : d.S e W base ok v xs) (ht : ∀ q, q ∈ e :: d.E → q ≠ 117) : d.S e W base (fun k => ok k ∧ k ≠ g) v xs := by
 obtain ⟨A0, c0, hb, hg, hr0⟩ := h
 exact Kd.S_types ho hb ht
theorem IsS117.own_neS {w0 W : World} {g : Nat} {f0 : List Int} {f1 : Int} {f2 : Int} {α : Type} {d : Kd α} {e : Nat} {base : Nat} {ok : Nat → Prop} {v : Value} {xs : List α} (h : IsS117 w0 W g f0 f1 f2) (ho : d.S e W base ok v xs) (ht : e ≠ 117) : some g ≠ v.ownBlock := by
 obtain ⟨A0, c0, hb, hg, hr0⟩ := h
 exact Kd.S_ne ho hb ht
theorem IsS117.lt {w0 W : World} {g : Nat} {f0 : List Int} {f1 : Int} {f2 : Int} (h : IsS117 w0 W g f0 f1 f2) : g < W.heap.size := by
 obtain ⟨A0, c0, hb, hg, hr0⟩ := h
 exact blk_lt hb
theorem IsS117.ge {w0 W : World} {g : Nat} {f0 : List Int} {f1 : Int} {f2 : Int} (h : IsS117 w0 W g f0 f1 f2) : w0.heap.size ≤ g := by
 obtain ⟨A0, c0, hb, hg, hr0⟩ := h
 exact hg
theorem IsS117.far {w0 W : World} {g : Nat} {f0 : List Int} {f1 : Int} {f2 : Int} {p : Addr} (h : IsS117 w0 W g f0 f1 f2) (hne : g ≠ p.block) (u : Value) : IsS117 w0 (W.setCell p u) g f0 f1 f2 := by
 obtain ⟨A0, c0, hb, hg, hr0⟩ := h
 exact ⟨A0, c0, blk_far hb hne u, hg, hr0⟩
theorem cellS117_0 {W : World} {g : Nat} {A0 : Option Addr} {c0 : Nat} {f0 : List Int} {f1 : Int} {f2 : Int} (h : W.heap[g]? = some (.cells #[.slice A0 f0.length c0, .int .i64 f1, .int .u64 f2] 117 (0, 0))) : W.cell? ⟨g, 0, none⟩ = some (.slice A0 f0.length c0) := (blk_cell h 0).trans rfl
theorem cellS117_1 {W : World} {g : Nat} {A0 : Option Addr} {c0 : Nat} {f0 : List Int} {f1 : Int} {f2 : Int} (h : W.heap[g]? = some (.cells #[.slice A0 f0.length c0, .int .i64 f1, .int .u64 f2] 117 (0, 0))) : W.cell? ⟨g, 1, none⟩ = some (.int .i64 f1) := (blk_cell h 1).trans rfl
theorem IsS117.set_1 {w0 W : World} {g : Nat} {f0 : List Int} {f1 : Int} {f2 : Int} (h : IsS117 w0 W g f0 f1 f2) (x : Int) : IsS117 w0 (W.setCell ⟨g, 1, none⟩ (.int .i64 x)) g f0 x f2 := by
 obtain ⟨A0, c0, hb, hg, hr0⟩ := h
 exact ⟨A0, c0, by simpa using blk_set hb 1 (.int .i64 x), hg, hr0⟩
theorem cellS117_2 {W : World} {g : Nat} {A0 : Option Addr} {c0 : Nat} {f0 : List Int} {f1 : Int} {f2 : Int} (h : W.heap[g]? = some (.cells #[.slice A0 f0.length c0, .int .i64 f1, .int .u64 f2] 117 (0, 0))) : W.cell? ⟨g, 2, none⟩ = some (.int .u64 f2) := (blk_cell h 2).trans rfl
theorem IsS117.set_2 {w0 W : World} {g : Nat} {f0 : List Int} {f1 : Int} {f2 : Int} (h : IsS117 w0 W g f0 f1 f2) (x : Int) : IsS117 w0 (W.setCell ⟨g, 2, none⟩ (.int .u64 x)) g f0 f1 x := by
 obtain ⟨A0, c0, hb, hg, hr0⟩ := h
 exact ⟨A0, c0, by simpa using blk_set hb 2 (.int .u64 x), hg, hr0⟩
theorem IsS117.new (w0 W : World) (A0 : Option Addr) (c0 : Nat) (f0 : List Int) (f1 : Int) (f2 : Int) (hB : Below w0.heap.size w0 W) (hr0 : Kd.C (Kd.int .u8) w0 A0 f0.length f0) : IsS117 w0 (W.alloc (.cells #[.slice A0 f0.length c0, .int .i64 f1, .int .u64 f2] 117)) W.heap.size f0 f1 f2 := ⟨A0, c0, by simpa using heap_alloc_new W _, hB.size, hr0⟩
def spec_l1Cur_next.f (s0_0 : List Int) (s0_1 : Int) (s0_2 : Int) : Option (Int × Int × Int) := if s0_1 < (s0_0.length : Int) then (if 0 ≤ s0_1 then (if (wrap64 (s0_1 + 1)) ≤ (s0_0.length : Int) then (some (wrap64 (rd s0_0 s0_1), wrap64 (s0_1 + 1), IntKind.u64.wrap ((IntKind.u64.wrap ((IntKind.u64.wrap (s0_2 * 6364136223846793005)) + (IntKind.u64.wrap (wrap64 (rd s0_0 s0_1))))) + 1442695040888963407))) else (some (wrap64 (Go.bits .and .u64 ((IntKind.u64.wrap ((IntKind.u64.wrap ((IntKind.u64.wrap (s0_2 * 6364136223846793005)) + (IntKind.u64.wrap (wrap64 (rd s0_0 s0_1))))) + 1442695040888963407)) / 1099511627776) 255), wrap64 (s0_1 + 1), IntKind.u64.wrap ((IntKind.u64.wrap ((IntKind.u64.wrap (s0_2 * 6364136223846793005)) + (IntKind.u64.wrap (wrap64 (rd s0_0 s0_1))))) + 1442695040888963407)))) else (none)) else (if (wrap64 (s0_1 + 1)) ≤ (s0_0.length : Int) then (some (0, wrap64 (s0_1 + 1), IntKind.u64.wrap ((IntKind.u64.wrap ((IntKind.u64.wrap (s0_2 * 6364136223846793005)))) + 1442695040888963407))) else (some (wrap64 (Go.bits .and .u64 ((IntKind.u64.wrap ((IntKind.u64.wrap ((IntKind.u64.wrap (s0_2 * 6364136223846793005)))) + 1442695040888963407)) / 1099511627776) 255), wrap64 (s0_1 + 1), IntKind.u64.wrap ((IntKind.u64.wrap ((IntKind.u64.wrap (s0_2 * 6364136223846793005)))) + 1442695040888963407))))
theorem spec_l1Cur_next.calls (g : Nat) (s0_0 : List Int) (s0_1 : Int) (s0_2 : Int) (r1 : Int) (r2 : Int) (r3 : Int) (w0 w : World) (hI : IsS117 w0 w g s0_0 s0_1 s0_2) (hB : Below w0.heap.size w0 w) (h : spec_l1Cur_next.f s0_0 s0_1 s0_2 = some (r1, r2, r3)) :
 Calls Tryz.prog 165 #[.pointer (some ⟨g, 0, none⟩)] w fun e w' => e = .returned (.int .i64 r1) ∧ IsS117 w0 w' g s0_0 r2 r3 ∧ Below w0.heap.size w0 w' ∧ KeepBut w w' g none := by
 have HI0 := a0_ hI
 have HK := a0_ (KeepBut.refl w g none)
 have HL := a0_ hB.size
 clear hI
 have HW0 := a0_ hB.size
 have HB := a0_ hB
 clear hB
 have H : (if s0_1 < (s0_0.length : Int) then (if 0 ≤ s0_1 then (if (wrap64 (s0_1 + 1)) ≤ (s0_0.length : Int) then (some (wrap64 (rd s0_0 s0_1), wrap64 (s0_1 + 1), IntKind.u64.wrap ((IntKind.u64.wrap ((IntKind.u64.wrap (s0_2 * 6364136223846793005)) + (IntKind.u64.wrap (wrap64 (rd s0_0 s0_1))))) + 1442695040888963407))) else (some (wrap64 (Go.bits .and .u64 ((IntKind.u64.wrap ((IntKind.u64.wrap ((IntKind.u64.wrap (s0_2 * 6364136223846793005)) + (IntKind.u64.wrap (wrap64 (rd s0_0 s0_1))))) + 1442695040888963407)) / 1099511627776) 255), wrap64 (s0_1 + 1), IntKind.u64.wrap ((IntKind.u64.wrap ((IntKind.u64.wrap (s0_2 * 6364136223846793005)) + (IntKind.u64.wrap (wrap64 (rd s0_0 s0_1))))) + 1442695040888963407)))) else (none)) else (if (wrap64 (s0_1 + 1)) ≤ (s0_0.length : Int) then (some (0, wrap64 (s0_1 + 1), IntKind.u64.wrap ((IntKind.u64.wrap ((IntKind.u64.wrap (s0_2 * 6364136223846793005)))) + 1442695040888963407))) else (some (wrap64 (Go.bits .and .u64 ((IntKind.u64.wrap ((IntKind.u64.wrap ((IntKind.u64.wrap (s0_2 * 6364136223846793005)))) + 1442695040888963407)) / 1099511627776) 255), wrap64 (s0_1 + 1), IntKind.u64.wrap ((IntKind.u64.wrap ((IntKind.u64.wrap (s0_2 * 6364136223846793005)))) + 1442695040888963407))))) = some (r1, r2, r3) := h
 clear h
 by_cases c2 : s0_1 < (s0_0.length : Int)
 case neg =>
  rw [if_neg c2] at H
  have c2b0 := decide_eq_false c2
  clear c2
  by_cases c7 : (wrap64 (s0_1 + 1)) ≤ (s0_0.length : Int)
  case neg =>
   rw [if_neg c7] at H
   have c7b0 := decide_eq_false c7
   clear c7
   simp only [Option.some.injEq, Prod.mk.injEq] at H
   obtain ⟨rfl, rfl, rfl⟩ := H
   obtain ⟨ASz9_0, cSz9_0, HGz9, hgz9, HSz9_0⟩ := HI0.out
   have z9_0 := cellS117_0 HGz9
   have z9_1 := cellS117_1 HGz9
   have z9_2 := cellS117_2 HGz9
   have q9_1 := blk_frozen HGz9 1
   have q9_2 := blk_frozen HGz9 2
   clear HGz9 hgz9
   go_enter Tryz.func165, Tryz.ntmps165
   go_wp2
   repeat (go_quiet (fail); try go_wp2)
   go_ret
   exact ⟨rr_, by repeat (first | (with_reducible first | exact HI0.out | apply IsS117.alloc | apply IsS117.drewN | apply IsS117.drew | apply IsS117.set_1 | apply IsS117.set_2) | exact HI0.out), by repeat (first | (with_reducible first | exact HB.out | apply below_alloc | apply pw_below_drewN | apply below_drew1 | refine below_set ?_ (IsS117.ge HI0.out)) | exact HB.out), by repeat (first | (with_reducible first | exact HK.out | apply KeepBut.set_ | apply keep_drewN | apply keep_drew | apply keep_alloc) | exact HK.out)⟩
  rw [if_pos c7] at H
  have c7b0 := decide_eq_true c7
  clear c7
  simp only [Option.some.injEq, Prod.mk.injEq] at H
  obtain ⟨rfl, rfl, rfl⟩ := H
  obtain ⟨ASz8_0, cSz8_0, HGz8, hgz8, HSz8_0⟩ := HI0.out
  have z8_0 := cellS117_0 HGz8
  have z8_1 := cellS117_1 HGz8
  have z8_2 := cellS117_2 HGz8
  have q8_1 := blk_frozen HGz8 1
  have q8_2 := blk_frozen HGz8 2
  clear HGz8 hgz8
  go_enter Tryz.func165, Tryz.ntmps165
  go_wp2
  repeat (go_quiet (fail); try go_wp2)
  go_ret
  exact ⟨rr_, by repeat (first | (with_reducible first | exact HI0.out | apply IsS117.alloc | apply IsS117.drewN | apply IsS117.drew | apply IsS117.set_1 | apply IsS117.set_2) | exact HI0.out), by repeat (first | (with_reducible first | exact HB.out | apply below_alloc | apply pw_below_drewN | apply below_drew1 | refine below_set ?_ (IsS117.ge HI0.out)) | exact HB.out), by repeat (first | (with_reducible first | exact HK.out | apply KeepBut.set_ | apply keep_drewN | apply keep_drew | apply keep_alloc) | exact HK.out)⟩
 rw [if_pos c2] at H
 have c2b0 := decide_eq_true c2
 clear c2
 by_cases c3 : 0 ≤ s0_1
 case neg =>
  rw [if_neg c3] at H
  exact absurd H (by simp)
 rw [if_pos c3] at H
 have c3b0 := decide_eq_true c3
 clear c3
 by_cases c4 : (wrap64 (s0_1 + 1)) ≤ (s0_0.length : Int)
 case neg =>
  rw [if_neg c4] at H
  have c4b0 := decide_eq_false c4
  clear c4
  simp only [Option.some.injEq, Prod.mk.injEq] at H
  obtain ⟨rfl, rfl, rfl⟩ := H
  obtain ⟨ASz6_0, cSz6_0, HGz6, hgz6, HSz6_0⟩ := HI0.out
  have z6_0 := cellS117_0 HGz6
  have z6_1 := cellS117_1 HGz6
  have z6_2 := cellS117_2 HGz6
  have q6_1 := blk_frozen HGz6 1
  have q6_2 := blk_frozen HGz6 2
  clear HGz6 hgz6
  have p595 := t0_ (s0_1)
  have q595 := tl_ (s0_1) (s0_0.length)
  obtain ⟨ad595, e595, hx595_0⟩ := Kd.at_int HSz6_0 s0_1 (of_eq_true p595) (of_eq_true q595)
  cases e595
  replace hx595_0 := pw_cell_below HB.out hx595_0
  go_enter Tryz.func165, Tryz.ntmps165
  go_wp2
  repeat (go_quiet (fail); try go_wp2)
  go_ret
  exact ⟨rr_, by repeat (first | (with_reducible first | exact HI0.out | apply IsS117.alloc | apply IsS117.drewN | apply IsS117.drew | apply IsS117.set_1 | apply IsS117.set_2) | exact HI0.out), by repeat (first | (with_reducible first | exact HB.out | apply below_alloc | apply pw_below_drewN | apply below_drew1 | refine below_set ?_ (IsS117.ge HI0.out)) | exact HB.out), by repeat (first | (with_reducible first | exact HK.out | apply KeepBut.set_ | apply keep_drewN | apply keep_drew | apply keep_alloc) | exact HK.out)⟩
 rw [if_pos c4] at H
 have c4b0 := decide_eq_true c4
 clear c4
 simp only [Option.some.injEq, Prod.mk.injEq] at H
 obtain ⟨rfl, rfl, rfl⟩ := H
 obtain ⟨ASz5_0, cSz5_0, HGz5, hgz5, HSz5_0⟩ := HI0.out
 have z5_0 := cellS117_0 HGz5
 have z5_1 := cellS117_1 HGz5
 have z5_2 := cellS117_2 HGz5
 have q5_1 := blk_frozen HGz5 1
 have q5_2 := blk_frozen HGz5 2
 clear HGz5 hgz5
 have p595 := t0_ (s0_1)
 have q595 := tl_ (s0_1) (s0_0.length)
 obtain ⟨ad595, e595, hx595_0⟩ := Kd.at_int HSz5_0 s0_1 (of_eq_true p595) (of_eq_true q595)
 cases e595
 replace hx595_0 := pw_cell_below HB.out hx595_0
 go_enter Tryz.func165, Tryz.ntmps165
 go_wp2
 repeat (go_quiet (fail); try go_wp2)
 go_ret
 exact ⟨rr_, by repeat (first | (with_reducible first | exact HI0.out | apply IsS117.alloc | apply IsS117.drewN | apply IsS117.drew | apply IsS117.set_1 | apply IsS117.set_2) | exact HI0.out), by repeat (first | (with_reducible first | exact HB.out | apply below_alloc | apply pw_below_drewN | apply below_drew1 | refine below_set ?_ (IsS117.ge HI0.out)) | exact HB.out), by repeat (first | (with_reducible first | exact HK.out | apply KeepBut.set_ | apply keep_drewN | apply keep_drew | apply keep_alloc) | exact HK.out)⟩
def spec_l1Num.f : Nat → Int → Option (ByteArray)
 | 0, _ => none
 | k + 1, a0 => if a0 < 10 then (some (strOfNums (([(wrap64 (48 + a0)) % 256] : List Int)))) else ((spec_l1Num.f k (wrap64 (Int.tdiv a0 10))).bind fun t104 => ((some (([(wrap64 (48 + (Int.tmod a0 10))) % 256] : List Int) : List Int)).bind fun y105 => (if t104.size + (strOfNums y105).size ≤ 9223372036854775807 then (some (t104 ++ (strOfNums y105))) else (none))))
def spec_l1Num.T3 : Bool × List (List Nat × List Nat) := (true, [([], []), ([0], [0]), ([1], [1]), ([], []), ([3], [3]), ([4], [4]), ([5], [5]), ([6], [6]), ([7], [7]), ([2, 8], [2, 8]), ([9, 2, 0, 1, 2, 3, 4, 5, 6, 7, 8, 9], [9])])
def spec_l1Num.B3 : List Nat := [0, 1, 3, 0, 8, 24, 56, 120, 248, 511, 1023]
theorem spec_l1Num.tab3 : rtab .any (opsOf Tryz.f52 3) = spec_l1Num.T3 := by kernel_rfl
theorem spec_l1Num.bits3 : waitsOk spec_l1Num.T3.2 spec_l1Num.B3 = true := by kernel_rfl
theorem spec_l1Num.calls (k : Nat) : ∀ (a0 : Int) (r : ByteArray) (w : World) (h : spec_l1Num.f k a0 = some r),
 Calls Tryz.prog 52 #[.int .i64 a0] w fun e w' => e = .returned (.string r) ∧ Below w.heap.size w w' := by
 induction k using Nat.strongRecOn with
 | _ k ih =>
 intro a0 r w h
 cases k with
 | zero => exact absurd h (by simp [spec_l1Num.f])
 | succ k =>
 simp only [spec_l1Num.f] at h
 have HB := a0_ (Below.refl w.heap.size w)
 have H : (if a0 < 10 then (some (strOfNums (([(wrap64 (48 + a0)) % 256] : List Int)))) else ((spec_l1Num.f k (wrap64 (Int.tdiv a0 10))).bind fun t104 => ((some (([(wrap64 (48 + (Int.tmod a0 10))) % 256] : List Int) : List Int)).bind fun y105 => (if t104.size + (strOfNums y105).size ≤ 9223372036854775807 then (some (t104 ++ (strOfNums y105))) else (none))))) = some r := h
 clear h
 by_cases c2 : a0 < 10
 case pos =>
  rw [if_pos c2] at H
  have c2b0 := decide_eq_true c2
  clear c2
  obtain ⟨y101, hy101⟩ : ∃ y_ : List Int, y_ = (([(wrap64 (48 + a0)) % 256] : List Int)) := ⟨_, rfl⟩
  rw [← hy101] at H
  have Ny101 := a0_ hy101
  clear hy101
  obtain rfl := Option.some.inj H
  go_enter Tryz.func52, Tryz.ntmps52
  go_wp2_with (first | ((with_reducible refine gate_dst (N := 8) rfl ?_); refine Kd.R_lit (Kd.int .u8) _ 5 ?hg (N := 8) ?hd (xs := ([(wrap64 (48 + a0)) % 256] : List Int)) (inner := [.int .u8 ((wrap64 (48 + a0)) % 256)]) (ok := fun _ => True) (okp := fun _ => True) ?hr ?hp (fun _ hk => hk) trivial (Below.refl _ _) (Nat.le_refl _) (by simp) ?_; (case hd => rfl); (case hg => rfl); (case hr => first | (go_simp; done) | (go_simp; rfl)); (case hp => exact (Reps.one (show Kd.M (Kd.int .u8) _ _ _ ((wrap64 (48 + a0)) % 256) [.int .u8 ((wrap64 (48 + a0)) % 256)] from rfl) (Reps.none _ _))); intro v102 w3 ho4 hb hg_ hnew_; clear hg_ hnew_; (first | rw [← Ny101.out] at ho4 | (simp only [Int.reduceToNat] at ho4; rw [← Ny101.out] at ho4)); have HO103 := a0_ (Kd.R_lower ho4 (below_size bq0_)); replace HB := a0_ (below_step bq0_ hb); clear hb ho4; have hcv5 := own_string (P := Tryz.prog) Tryz.underlying43 Tryz.underlying5 Tryz.underlying9 (Kd.own_of_R HO103.out)))
  go_ret
  exact ⟨rr_, bq0_⟩
 rw [if_neg c2] at H
 have c2b0 := decide_eq_false c2
 clear c2
 obtain ⟨t104, A6, H⟩ := ob_ H
 obtain ⟨y105, hy105⟩ : ∃ y_ : List Int, y_ = (([(wrap64 (48 + (Int.tmod a0 10))) % 256] : List Int)) := ⟨_, rfl⟩
 replace H := by_ hy105 H
 have Ny105 := a0_ hy105
 clear hy105
 by_cases c7 : t104.size + (strOfNums y105).size ≤ 9223372036854775807
 case neg =>
  rw [if_neg c7] at H
  exact absurd H (by simp)
 rw [if_pos c7] at H
 have c7b0 := eq_true c7
 have c7b1 := decide_eq_true c7
 try have c7b2 : (9223372036854775807 < t104.size + (strOfNums y105).size) = False := eq_false (Nat.not_lt.2 c7)
 obtain rfl := Option.some.inj H
 go_enter Tryz.func52, Tryz.ntmps52
 try go_wp2
 replace HB := a0_ (below_drew1 HB.out)
 refine stH_ 11 [] ht_ (fun hHeld => ?_); refine with_tabW spec_l1Num.tab3 spec_l1Num.bits3 (fun HT_ HW_ => ?_)
 generalize w.drew = w8 at HB hHeld ⊢
 refine pure_ (i := 0) (N := some 10) (v := ?_) (a' := ?_) #[true, false, false, false, false, false, false, false, false, false, false] rfl rfl (any_of HT_.out (by kernel_rfl)) (fun _ _ _ h => h) (Or.inl ⟨by rfl, ?_⟩) ?_ ?_
 rotate_left
 · intro w'
   go_simp
   with_reducible rfl
 rotate_left
 · simp only [Act.put, List.setIfInBounds_toArray, List.set_cons_zero, List.set_cons_succ, i64_w, i32_w]
   rfl
 refine pure_ (i := 1) (N := some 11) (v := ?_) (a' := ?_) #[true, true, false, false, false, false, false, false, false, false, false] rfl rfl (any_of HT_.out (by kernel_rfl)) (fun _ _ _ h => h) (Or.inl ⟨by rfl, ?_⟩) ?_ ?_
 rotate_left
 · intro w'
   go_simp
   with_reducible rfl
 rotate_left
 · simp only [Act.put, List.setIfInBounds_toArray, List.set_cons_zero, List.set_cons_succ, i64_w, i32_w]
   rfl
 refine pure_ (i := 3) (N := some 13) (v := ?_) (a' := ?_) #[true, true, false, true, false, false, false, false, false, false, false] rfl rfl (any_of HT_.out (by kernel_rfl)) (fun _ _ _ h => h) (Or.inl ⟨by rfl, ?_⟩) ?_ ?_
 rotate_left
 · intro w'
   go_simp
   with_reducible rfl
 rotate_left
 · simp only [Act.put, List.setIfInBounds_toArray, List.set_cons_zero, List.set_cons_succ, i64_w, i32_w]
   rfl
 refine pure_ (i := 4) (N := some 14) (v := ?_) (a' := ?_) #[true, true, false, true, true, false, false, false, false, false, false] rfl rfl (any_of HT_.out (by kernel_rfl)) (fun _ _ _ h => h) (Or.inl ⟨by rfl, ?_⟩) ?_ ?_
 rotate_left
 · intro w'
   go_simp
   with_reducible rfl
 rotate_left
 · simp only [Act.put, List.setIfInBounds_toArray, List.set_cons_zero, List.set_cons_succ, i64_w, i32_w]
   rfl
 refine pure_ (i := 5) (N := some 15) (v := ?_) (a' := ?_) #[true, true, false, true, true, true, false, false, false, false, false] rfl rfl (any_of HT_.out (by kernel_rfl)) (fun _ _ _ h => h) (Or.inl ⟨by rfl, ?_⟩) ?_ ?_
 rotate_left
 · intro w'
   go_simp
   with_reducible rfl
 rotate_left
 · simp only [Act.put, List.setIfInBounds_toArray, List.set_cons_zero, List.set_cons_succ, i64_w, i32_w]
   rfl
 refine pure_ (i := 6) (N := some 16) (v := ?_) (a' := ?_) #[true, true, false, true, true, true, true, false, false, false, false] rfl rfl (any_of HT_.out (by kernel_rfl)) (fun _ _ _ h => h) (Or.inl ⟨by rfl, ?_⟩) ?_ ?_
 rotate_left
 · intro w'
   go_simp
   with_reducible rfl
 rotate_left
 · simp only [Act.put, List.setIfInBounds_toArray, List.set_cons_zero, List.set_cons_succ, i64_w, i32_w]
   rfl
 refine join_ (σ := Value) 2 #[true, true, true, true, true, true, true, true, true, false, false] (fun s_ => [(12, .string t104), (17, s_), (18, .string (strOfNums y105))]) (fun s_ w' => (Kd.R (Kd.int .u8) 5 w' w.heap.size (fun _ => True) s_ y105) ∧ (Below w.heap.size w w')) ?_ ?_
 rotate_left
 · intro hCont
   refine two_ (i := 2) (j := 7) (Ni := some 12) (Nj := some 17) #[true, true, true, true, true, true, true, false, false, false, false] #[true, true, false, true, true, true, true, true, false, false, false] rfl rfl rfl rfl (two_of HT_.out (by kernel_rfl)) (by decide) (by decide) (fun K hK => ?_) (fun K hK => ?_)
   · skip
     refine goes_ Tryz.func52 (by kernel_rfl) rfl #[.int .i64 (wrap64 (Int.tdiv a0 10))] (by rfl) rfl rfl argsS_ ?_
     with_reducible refine (ih k (by omega) (wrap64 (Int.tdiv a0 10)) t104 _ A6.out).mono ?_
     rintro e w9 ⟨rfl, hb⟩
     refine ⟨_, rfl, ?_⟩
     replace HB := a0_ (below_step bq0_ hb)
     (try clear hb)
     (try clear hb2)
     (try clear hk)
     (try clear hi)
     refine hK.out _ _ trivial (fun hHeld => ?_)
     clear hK K
     refine norm_ (a' := ?_) ?_ ?_
     rotate_left
     · show Act.put _ (some 12) _ = _
       simp only [Act.put, List.setIfInBounds_toArray, List.set_cons_zero, List.set_cons_succ, i64_w, i32_w]
       rfl
     refine one_ (i := 7) (N := some 17) #[true, true, true, true, true, true, true, true, false, false, false] rfl rfl (one_of HT_.out (by kernel_rfl)) (by decide) (fun K hK => ?_)
     refine Kd.R_lit_step (Kd.int .u8) _ 5 ?hg (N := 17) ?hd (xs := ([(wrap64 (48 + (Int.tmod a0 10))) % 256] : List Int)) (inner := [.int .u8 ((wrap64 (48 + (Int.tmod a0 10))) % 256)]) (ok := fun _ => True) (okp := fun _ => True) ?hr ?hp (fun _ hk => hk) trivial (Below.refl _ _) (Nat.le_refl _) (by simp) ?_; (case hd => rfl); (case hg => rfl); (case hr => first | (go_simp; done) | (go_simp; rfl)); (case hp => exact (Reps.one (show Kd.M (Kd.int .u8) _ _ _ ((wrap64 (48 + (Int.tmod a0 10))) % 256) [.int .u8 ((wrap64 (48 + (Int.tmod a0 10))) % 256)] from rfl) (Reps.none _ _)))
     intro v106 w10 ho11 hb hg_ hnew_
     clear hg_ hnew_
     (first | rw [← Ny105.out] at ho11 | (simp only [Int.reduceToNat] at ho11; rw [← Ny105.out] at ho11))
     have HO107 := a0_ (Kd.R_lower ho11 (below_size bq0_))
     replace HB := a0_ (below_step bq0_ hb)
     clear hb ho11
     refine hK.out _ _ trivial (fun hHeld => ?_)
     clear hK K
     refine norm_ (a' := ?_) ?_ ?_
     rotate_left
     · show Act.put _ (some 17) _ = _
       simp only [Act.put, List.setIfInBounds_toArray, List.set_cons_zero, List.set_cons_succ, i64_w, i32_w]
       rfl
     refine one_ (i := 8) (N := some 18) #[true, true, true, true, true, true, true, true, true, false, false] rfl rfl (one_of HT_.out (by kernel_rfl)) (by decide) (fun K hK => ?_)
     have hcv12 := own_string (P := Tryz.prog) Tryz.underlying43 Tryz.underlying5 Tryz.underlying9 (Kd.own_of_R HO107.out)
     refine value_ (w1 := ?_) (v := ?_) (by rfl) rfl ?_ ?_
     rotate_left 2
     · go_simp
       constructor
       · rfl
       · rfl
     clear hcv12
     refine hK.out _ _ trivial (fun hHeld => ?_)
     clear hK K
     refine norm_ (a' := ?_) ?_ ?_
     rotate_left
     · show Act.put _ (some 18) _ = _
       simp only [Act.put, List.setIfInBounds_toArray, List.set_cons_zero, List.set_cons_succ, i64_w, i32_w]
       rfl
     exact norm_ (by simp only [putAll, Act.put, List.setIfInBounds_toArray, List.set_cons_zero, List.set_cons_succ]) (hCont (v106) _ ⟨(kR_ HO107.out), bq0_⟩)
   · skip
     refine Kd.R_lit_step (Kd.int .u8) _ 5 ?hg (N := 17) ?hd (xs := ([(wrap64 (48 + (Int.tmod a0 10))) % 256] : List Int)) (inner := [.int .u8 ((wrap64 (48 + (Int.tmod a0 10))) % 256)]) (ok := fun _ => True) (okp := fun _ => True) ?hr ?hp (fun _ hk => hk) trivial (Below.refl _ _) (Nat.le_refl _) (by simp) ?_; (case hd => rfl); (case hg => rfl); (case hr => first | (go_simp; done) | (go_simp; rfl)); (case hp => exact (Reps.one (show Kd.M (Kd.int .u8) _ _ _ ((wrap64 (48 + (Int.tmod a0 10))) % 256) [.int .u8 ((wrap64 (48 + (Int.tmod a0 10))) % 256)] from rfl) (Reps.none _ _)))
     intro v106 w9 ho10 hb hg_ hnew_
     clear hg_ hnew_
     (first | rw [← Ny105.out] at ho10 | (simp only [Int.reduceToNat] at ho10; rw [← Ny105.out] at ho10))
     have HO107 := a0_ (Kd.R_lower ho10 (below_size bq0_))
     replace HB := a0_ (below_step bq0_ hb)
     clear hb ho10
     refine hK.out _ _ trivial (fun hHeld => ?_)
     clear hK K
     refine norm_ (a' := ?_) ?_ ?_
     rotate_left
     · show Act.put _ (some 17) _ = _
       simp only [Act.put, List.setIfInBounds_toArray, List.set_cons_zero, List.set_cons_succ, i64_w, i32_w]
       rfl
     refine two_ (i := 2) (j := 8) (Ni := some 12) (Nj := some 18) #[true, true, true, true, true, true, true, true, false, false, false] #[true, true, false, true, true, true, true, true, true, false, false] rfl rfl rfl rfl (two_of HT_.out (by kernel_rfl)) (by decide) (by decide) (fun K hK => ?_) (fun K hK => ?_)
     · skip
       refine goes_ Tryz.func52 (by kernel_rfl) rfl #[.int .i64 (wrap64 (Int.tdiv a0 10))] (by rfl) rfl rfl argsS_ ?_
       with_reducible refine (ih k (by omega) (wrap64 (Int.tdiv a0 10)) t104 _ A6.out).mono ?_
       rintro e w11 ⟨rfl, hb⟩
       refine ⟨_, rfl, ?_⟩
       replace HO107 := a0_ (Kd.R_below (kR_ HO107.out) hb)
       replace HB := a0_ (below_step bq0_ hb)
       (try clear hb)
       (try clear hb2)
       (try clear hk)
       (try clear hi)
       refine hK.out _ _ trivial (fun hHeld => ?_)
       clear hK K
       refine norm_ (a' := ?_) ?_ ?_
       rotate_left
       · show Act.put _ (some 12) _ = _
         simp only [Act.put, List.setIfInBounds_toArray, List.set_cons_zero, List.set_cons_succ, i64_w, i32_w]
         rfl
       refine one_ (i := 8) (N := some 18) #[true, true, true, true, true, true, true, true, true, false, false] rfl rfl (one_of HT_.out (by kernel_rfl)) (by decide) (fun K hK => ?_)
       have hcv12 := own_string (P := Tryz.prog) Tryz.underlying43 Tryz.underlying5 Tryz.underlying9 (Kd.own_of_R HO107.out)
       refine value_ (w1 := ?_) (v := ?_) (by rfl) rfl ?_ ?_
       rotate_left 2
       · go_simp
         constructor
         · rfl
         · rfl
       clear hcv12
       refine hK.out _ _ trivial (fun hHeld => ?_)
       clear hK K
       refine norm_ (a' := ?_) ?_ ?_
       rotate_left
       · show Act.put _ (some 18) _ = _
         simp only [Act.put, List.setIfInBounds_toArray, List.set_cons_zero, List.set_cons_succ, i64_w, i32_w]
         rfl
       exact norm_ (by simp only [putAll, Act.put, List.setIfInBounds_toArray, List.set_cons_zero, List.set_cons_succ]) (hCont (v106) _ ⟨(kR_ HO107.out), bq0_⟩)
     · skip
       have hcv11 := own_string (P := Tryz.prog) Tryz.underlying43 Tryz.underlying5 Tryz.underlying9 (Kd.own_of_R HO107.out)
       refine value_ (w1 := ?_) (v := ?_) (by rfl) rfl ?_ ?_
       rotate_left 2
       · go_simp
         constructor
         · rfl
         · rfl
       clear hcv11
       refine hK.out _ _ trivial (fun hHeld => ?_)
       clear hK K
       refine norm_ (a' := ?_) ?_ ?_
       rotate_left
       · show Act.put _ (some 18) _ = _
         simp only [Act.put, List.setIfInBounds_toArray, List.set_cons_zero, List.set_cons_succ, i64_w, i32_w]
         rfl
       refine one_ (i := 2) (N := some 12) #[true, true, true, true, true, true, true, true, true, false, false] rfl rfl (one_of HT_.out (by kernel_rfl)) (by decide) (fun K hK => ?_)
       refine goes_ Tryz.func52 (by kernel_rfl) rfl #[.int .i64 (wrap64 (Int.tdiv a0 10))] (by rfl) rfl rfl argsS_ ?_
       with_reducible refine (ih k (by omega) (wrap64 (Int.tdiv a0 10)) t104 _ A6.out).mono ?_
       rintro e w12 ⟨rfl, hb⟩
       refine ⟨_, rfl, ?_⟩
       replace HO107 := a0_ (Kd.R_below (kR_ HO107.out) hb)
       replace HB := a0_ (below_step bq0_ hb)
       (try clear hb)
       (try clear hb2)
       (try clear hk)
       (try clear hi)
       refine hK.out _ _ trivial (fun hHeld => ?_)
       clear hK K
       refine norm_ (a' := ?_) ?_ ?_
       rotate_left
       · show Act.put _ (some 12) _ = _
         simp only [Act.put, List.setIfInBounds_toArray, List.set_cons_zero, List.set_cons_succ, i64_w, i32_w]
         rfl
       exact norm_ (by simp only [putAll, Act.put, List.setIfInBounds_toArray, List.set_cons_zero, List.set_cons_succ]) (hCont (v106) _ ⟨(kR_ HO107.out), bq0_⟩)
 rintro v106 w13 ⟨h0_, h1_⟩
 have n0_ : Aside0 (Kd.R (Kd.int .u8) 5 w13 w.heap.size (fun _ => True) v106 y105) := ⟨h0_⟩
 have n1_ : Aside0 (Below w.heap.size w w13) := ⟨h1_⟩
 clear HB
 clear h0_ h1_
 have HO107 := n0_
 have HB := n1_
 clear n0_ n1_
 have hHeld := trivial
 refine norm_ (a' := ?_) ?_ ?_
 rotate_left
 · simp only [putAll, Act.put, List.setIfInBounds_toArray, List.set_cons_zero, List.set_cons_succ]
   rfl
 refine pure_ (i := 9) (N := some 19) (v := ?_) (a' := ?_) #[true, true, true, true, true, true, true, true, true, true, false] rfl rfl (any_of HT_.out (by kernel_rfl)) (fun _ _ _ h => h) (Or.inl ⟨by rfl, ?_⟩) ?_ ?_
 rotate_left
 · intro w'
   go_simp
   with_reducible rfl
 rotate_left
 · simp only [Act.put, List.setIfInBounds_toArray, List.set_cons_zero, List.set_cons_succ, i64_w, i32_w]
   rfl
 refine pure_ (i := 10) (N := some 2) (v := ?_) (a' := ?_) #[true, true, true, true, true, true, true, true, true, true, true] rfl rfl (any_of HT_.out (by kernel_rfl)) (fun _ _ _ h => h) (Or.inl ⟨by rfl, ?_⟩) ?_ ?_
 rotate_left
 · intro w'
   go_simp
   with_reducible rfl
 rotate_left
 · simp only [Act.put, List.setIfInBounds_toArray, List.set_cons_zero, List.set_cons_succ, i64_w, i32_w]
   rfl
 refine done_ (done_of HT_.out (by kernel_rfl)) ?_
 try go_wp2
 go_ret
 exact ⟨rr_, bq0_⟩
end Go.Proofs.YtiegkjimpclmaaaGreatDoor.P
namespace Go.Proofs.YtiegkjimpclmaaaGreatDoor.P
theorem i117_ {p : Prop} (h : p := by repeat (first | (with_reducible first | exact Aside0.out (by assumption) | apply IsS117.alloc | apply IsS117.drewN | apply IsS117.drew | apply IsS117.set_1 | apply IsS117.set_2 | refine IsS117.far ?_ (Aside0.out (by assumption)) _) | exact Aside0.out (by assumption))) : p := h
theorem kq_ {p : Prop} (h : p := by repeat (first | (with_reducible first | exact Aside0.out (by assumption) | apply KeepBut.set_ | apply keep_drewN | apply keep_drew | apply keep_alloc | refine keep_far ?_ (Aside0.out (by assumption)) _) | exact Aside0.out (by assumption))) : p := h
theorem kt_ {w w1 w2 w3 : World} {g : Nat} {row row1 : Option Nat} (HK : Aside0 (KeepBut w w1 g row)) (k : KeepBut w2 w3 g row1) (hr : row1 = row ∨ ∃ b, row1 = some b ∧ w.heap.size ≤ b) (h : KeepBut w w2 g row := by repeat (first | (with_reducible first | exact Aside0.out (by assumption) | apply KeepBut.set_ | apply keep_drewN | apply keep_drew | apply keep_alloc | refine keep_far ?_ (Aside0.out (by assumption)) _) | exact Aside0.out (by assumption))) : KeepBut w w3 g row := h.trans k hr
theorem bq2_ {p : Prop} (h : p := by repeat (first | (with_reducible first | exact Aside0.out (by assumption) | apply below_alloc | apply pw_below_drewN | apply below_drew1 | refine below_set ?_ (Aside0.out (by assumption)) | refine below_set ?_ (IsS117.ge (Aside0.out (by assumption)))) | exact Aside0.out (by assumption))) : p := h
theorem bz_ {p : Prop} (h : p := by repeat (first | (with_reducible first | exact Aside0.out (by assumption) | refine blk_drewN ?_ _ | refine blk_drew ?_ | refine blk_alloc ?_ _ | refine blk_far ?_ (Aside0.out (by assumption)) _) | exact Aside0.out (by assumption))) : p := h
theorem kk_ {w0 w w1 : World} {g g' : Nat} {row : Option Nat} {o : Obj} (BK : Aside0 (w0.heap[g']? = some o)) (hk : KeepBut w w1 g row) (hne : g' ≠ g) (hr : some g' ≠ row := by simp) (h : w.heap[g']? = some o := by (with_reducible repeat (first | refine blk_drewN ?_ _ | refine blk_drew ?_ | refine blk_alloc ?_ _)); exact Aside0.out (by assumption)) : w1.heap[g']? = some o := KeepBut.blk hk h hne hr
end Go.Proofs.YtiegkjimpclmaaaGreatDoor.P
namespace Go.Proofs.YtiegkjimpclmaaaGreatDoor.P
attribute [local go_sem] max2_int min2_int max_two min_two max_three min_three max_four min_four
def spec_l1In.f (a0 : Int) (a1 : Int) (a2 : Int) : Option (Bool) := if a0 ≥ a1 then (some (decide (a0 ≤ a2))) else (some false)
theorem spec_l1In.calls (a0 : Int) (a1 : Int) (a2 : Int) (r : Bool) (w : World) (h : spec_l1In.f a0 a1 a2 = some r) :
 Calls Tryz.prog 102 #[.int .i64 a0, .int .i64 a1, .int .i64 a2] w fun e w' => e = .returned (.bool r) ∧ Drawn0 w w' := by
 have H := h
 clear h
 unfold spec_l1In.f at H
 by_cases c4 : a0 ≥ a1
 case neg =>
  rw [if_neg c4] at H
  have c4b0 := decide_eq_false c4
  clear c4
  obtain rfl := Option.some.inj H
  go_enter Tryz.func102, Tryz.ntmps102
  go_wp2
  go_ret
  exact ⟨rs_, dr_⟩
 rw [if_pos c4] at H
 have c4b0 := decide_eq_true c4
 clear c4
 obtain rfl := Option.some.inj H
 go_enter Tryz.func102, Tryz.ntmps102
 go_wp2
 go_ret
 exact ⟨rs_, dr_⟩
def spec_l1Split.l0 : Nat → ByteArray → Int → List ByteArray → Int → Int → Option (List ByteArray)
 | 0, _, _, _, _, _ => none
 | k + 1, x0, x1, x5, x6, x7 => if x7 < (x0.size : Int) then (if 0 ≤ x7 then (if (bt x0 x7) = x1 then (if 0 ≤ x6 then (if x6 ≤ x7 then (if x7 ≤ (x0.size : Int) then (if x5.length < 8796093022208 then (spec_l1Split.l0 k x0 x1 (x5 ++ [x0.extract (x6 : Int).toNat (x7 : Int).toNat]) (wrap64 (x7 + 1)) (wrap64 (x7 + 1))) else (none)) else (none)) else (none)) else (none)) else (spec_l1Split.l0 k x0 x1 x5 x6 (wrap64 (x7 + 1)))) else (none)) else (if 0 ≤ x6 then (if x6 ≤ (x0.size : Int) then (if x5.length < 8796093022208 then (some (x5 ++ [x0.extract (x6 : Int).toNat x0.size])) else (none)) else (none)) else (none))
def spec_l1Split.f (k : Nat) (a0 : ByteArray) (a1 : Int) : Option (List ByteArray) := spec_l1Split.l0 k a0 a1 ([] : List ByteArray) 0 0
theorem spec_l1Split.mono_l : ∀ k, (∀ y0 y1 y2 y3 y4, LeO (spec_l1Split.l0 k y0 y1 y2 y3 y4) (spec_l1Split.l0 (k + 1) y0 y1 y2 y3 y4))
 | 0 => fun _ _ _ _ _ r h => by simp [spec_l1Split.l0] at h
 | k + 1 => by
  have ih0 := spec_l1Split.mono_l k
  · intro y0 y1 y2 y3 y4
    unfold spec_l1Split.l0
    repeat' first | (with_reducible first | exact ih0 _ _ _ _ _ | exact LeO.refl _ | exact LeO.none _ | refine LeO.ite ?_ ?_ | refine LeO.bind ?_ (fun _ => ?_)) | exact LeO.none _ | refine LeO.ite ?_ ?_ | refine LeO.bind ?_ (fun _ => ?_)
theorem spec_l1Split.mono : ∀ a0 a1 k, LeO (spec_l1Split.f k a0 a1) (spec_l1Split.f (k + 1) a0 a1) := by
 intro a0 a1 k
 have ih0 := spec_l1Split.mono_l k
 unfold spec_l1Split.f
 repeat' first | (with_reducible first | exact ih0 _ _ _ _ _ | exact LeO.refl _ | exact LeO.none _ | refine LeO.ite ?_ ?_ | refine LeO.bind ?_ (fun _ => ?_)) | exact LeO.none _ | refine LeO.ite ?_ ?_ | refine LeO.bind ?_ (fun _ => ?_)
theorem spec_l1Split.calls (k : Nat) (a0 : ByteArray) (a1 : Int) (r : List ByteArray) (w : World) (h : spec_l1Split.f k a0 a1 = some r) :
 Calls Tryz.prog 116 #[.string a0, .int .u8 a1] w fun e w' => ∃ v0_ : Value, e = .returned (v0_) ∧ Kd.R Kd.string 9 w' w.heap.size (fun _ => True) v0_ r ∧ Below w.heap.size w w' := by
 have HB := a0_ (Below.refl w.heap.size w)
 have H := h
 clear h
 unfold spec_l1Split.f at H
 have H' := a0_ H
 clear H
 go_enter Tryz.func116, Tryz.ntmps116
 go_wp2
 go_loopg [5, 6, 7] k (fun kq v5 v6 v7 w' => ∃ (x5_1 : List ByteArray) (x6_1 : Int) (x7_1 : Int), v6 = .int .i64 x6_1 ∧ v7 = .int .i64 x7_1 ∧ Aside0 (spec_l1Split.l0 kq a0 a1 x5_1 x6_1 x7_1 = some r) ∧ Aside0 (kq ≤ k) ∧ Aside0 (Kd.R Kd.string 9 w' w.heap.size (fun _ => True) v5 x5_1) ∧ Aside0 (Below w.heap.size w w'))
 case atStart => exact ⟨(([] : List ByteArray)), (0), (0), rs_, rs_, H', ⟨Nat.le_refl _⟩, ⟨by first | exact Kd.R_nil _ _ _ _ _ | exact Kd.N_nil _ _ _ _ _ | exact Kd.V_nil _ _ _ _ _ | exact Kd.Q_nil _ _ _ _ _ | exact Kd.S_nil _ _ _ _ _⟩, ⟨bq0_⟩⟩
 case round =>
  clear H'
  obtain ⟨x5_1, x6_1, x7_1, rfl, rfl, HA, HK1, HO_5, HB⟩ := hrel
  cases gk with
  | zero => exact absurd HA.out (by simp [spec_l1Split.l0])
  | succ k1 =>
   have H := HA.out
   clear HA
   simp only [spec_l1Split.l0] at H
   by_cases c3 : x7_1 < (a0.size : Int)
   case neg =>
    rw [if_neg c3] at H
    have c3b0 := decide_eq_false c3
    clear c3
    by_cases c12 : 0 ≤ x6_1
    case neg =>
     rw [if_neg c12] at H
     exact absurd H (by simp)
    rw [if_pos c12] at H
    have c12b0 := eq_true c12
    have c12b1 := decide_eq_true c12
    clear c12
    by_cases c13 : x6_1 ≤ (a0.size : Int)
    case neg =>
     rw [if_neg c13] at H
     exact absurd H (by simp)
    rw [if_pos c13] at H
    have c13b0 := eq_true c13
    have c13b1 := decide_eq_true c13
    clear c13
    by_cases c14 : x5_1.length < 8796093022208
    case neg =>
     rw [if_neg c14] at H
     exact absurd H (by simp)
    rw [if_pos c14] at H
    have LMc14 := a0_ c14
    clear c14
    obtain ⟨y111, hy111⟩ : ∃ y_ : List ByteArray, y_ = (x5_1 ++ [a0.extract (x6_1 : Int).toNat a0.size]) := ⟨_, rfl⟩
    rw [← hy111] at H
    have Ny111 := a0_ hy111
    clear hy111
    obtain rfl := Option.some.inj H
    go_wp2_with (first | ((with_reducible refine gate_builtin (b := .append) (xs := #[.tmp 28, .tmp 32]) rfl ?_); at_builtin; refine Kd.R_append Kd.string (w0 := w) w.heap.size rfl (.tmp 28) (.tmp 32) 78 9 (.string ⟨#[]⟩) 16 rfl Tryz.underlying78 info9 rfl (by decide) (by omega) u5 x5_1 (a0.extract (x6_1 : Int).toNat a0.size) [.string (a0.extract (x6_1 : Int).toNat a0.size)] (fun _ => True) (fun _ => False) rfl rfl ?aP (fun _ hk => hk.elim) ?aF ?aO ?aB ?aS ?aL ?_; (case aP => exact rfl); (case aB => exact bq0_); (case aF => exact (fun _ _ => trivial)); (case aO => exact (kR_ HO_5.out)); (case aS => exact (below_size bq0_)); (case aL => have := LMc14.out; omega); intro v112 w15 ho hb hg hat; rw [← Ny111.out] at ho; replace HB := a0_ (hb); have HO113 := a0_ (ho); clear HO_5; clear ho hb hg hat))
    go_ret
    exact ⟨_, rr_, kR_ HO113.out, bq0_⟩
   rw [if_pos c3] at H
   have c3b0 := decide_eq_true c3
   clear c3
   by_cases c4 : 0 ≤ x7_1
   case neg =>
    rw [if_neg c4] at H
    exact absurd H (by simp)
   rw [if_pos c4] at H
   have c4b0 := decide_eq_true c4
   clear c4
   by_cases c6 : (bt a0 x7_1) = a1
   case neg =>
    rw [if_neg c6] at H
    have c6b0 := beq_eq_false_iff_ne.mpr c6
    have c6b1 := bne_iff_ne.mpr c6
    have H' := a0_ H
    clear H
    have p5 := t0_ (x7_1)
    have q5 := tl_ (x7_1) (a0.size)
    have hx5 := bt_at a0 x7_1
    go_wp2
    go_roundg k1
    case measure => have := HK1.out; omega
    case rel => exact ⟨(x5_1), (x6_1), (wrap64 (x7_1 + 1)), rs_, rs_, H', jl_ HK1, ⟨kR_ HO_5.out⟩, ⟨bq0_⟩⟩
   rw [if_pos c6] at H
   have c6b0 := beq_iff_eq.mpr c6
   have c6b1 := bne_eq_false_iff_eq.mpr c6
   clear c6
   by_cases c7 : 0 ≤ x6_1
   case neg =>
    rw [if_neg c7] at H
    exact absurd H (by simp)
   rw [if_pos c7] at H
   have c7b0 := eq_true c7
   have c7b1 := decide_eq_true c7
   clear c7
   by_cases c8 : x6_1 ≤ x7_1
   case neg =>
    rw [if_neg c8] at H
    exact absurd H (by simp)
   rw [if_pos c8] at H
   have c8b0 := eq_true c8
   have c8b1 := decide_eq_true c8
   clear c8
   by_cases c9 : x7_1 ≤ (a0.size : Int)
   case neg =>
    rw [if_neg c9] at H
    exact absurd H (by simp)
   rw [if_pos c9] at H
   have c9b0 := eq_true c9
   have c9b1 := decide_eq_true c9
   clear c9
   by_cases c10 : x5_1.length < 8796093022208
   case neg =>
    rw [if_neg c10] at H
    exact absurd H (by simp)
   rw [if_pos c10] at H
   have LMc10 := a0_ c10
   clear c10
   obtain ⟨y108, hy108⟩ : ∃ y_ : List ByteArray, y_ = (x5_1 ++ [a0.extract (x6_1 : Int).toNat (x7_1 : Int).toNat]) := ⟨_, rfl⟩
   rw [← hy108] at H
   have Ny108 := a0_ hy108
   clear hy108
   have H' := a0_ H
   clear H
   have p5 := t0_ (x7_1)
   have q5 := tl_ (x7_1) (a0.size)
   have hx5 := bt_at a0 x7_1
   go_wp2_with (first | ((with_reducible refine gate_builtin (b := .append) (xs := #[.tmp 19, .tmp 24]) rfl ?_); at_builtin; refine Kd.R_append Kd.string (w0 := w) w.heap.size rfl (.tmp 19) (.tmp 24) 78 9 (.string ⟨#[]⟩) 16 rfl Tryz.underlying78 info9 rfl (by decide) (by omega) u5 x5_1 (a0.extract (x6_1 : Int).toNat (x7_1 : Int).toNat) [.string (a0.extract (x6_1 : Int).toNat (x7_1 : Int).toNat)] (fun _ => True) (fun _ => False) rfl rfl ?aP (fun _ hk => hk.elim) ?aF ?aO ?aB ?aS ?aL ?_; (case aP => exact rfl); (case aB => exact bq0_); (case aF => exact (fun _ _ => trivial)); (case aO => exact (kR_ HO_5.out)); (case aS => exact (below_size bq0_)); (case aL => have := LMc10.out; omega); intro v109 w11 ho hb hg hat; rw [← Ny108.out] at ho; replace HB := a0_ (hb); have HO110 := a0_ (ho); clear HO_5; clear ho hb hg hat))
   go_roundg k1
   case measure => have := HK1.out; omega
   case rel => exact ⟨(y108), (wrap64 (x7_1 + 1)), (wrap64 (x7_1 + 1)), rs_, rs_, H', jl_ HK1, ⟨kR_ HO110.out⟩, ⟨bq0_⟩⟩
def spec_l3Number.l0 : Nat → Int → List Int → Int → Option (ByteArray)
 | 0, _, _, _ => none
 | k + 1, x0, x5, x6 => if x6 ≥ 0 then (if 0 ≤ x6 then (if x6 < (x5.length : Int) then (spec_l3Number.l0 k (x0 / 256) (x5.set (x6 : Int).toNat ((x0) % 256)) (wrap64 (x6 - 1))) else (none)) else (none)) else (some (strOfNums x5))
def spec_l3Number.f (k : Nat) (a0 : Int) (a1 : Int) : Option (ByteArray) := if 0 ≤ a1 then (if (a1 : Int).toNat ≤ 281474976710656 then (spec_l3Number.l0 k a0 (List.replicate (a1 : Int).toNat 0) (wrap64 (a1 - 1))) else (none)) else (none)
theorem spec_l3Number.mono_l : ∀ k, (∀ y0 y1 y2, LeO (spec_l3Number.l0 k y0 y1 y2) (spec_l3Number.l0 (k + 1) y0 y1 y2))
 | 0 => fun _ _ _ r h => by simp [spec_l3Number.l0] at h
 | k + 1 => by
  have ih0 := spec_l3Number.mono_l k
  · intro y0 y1 y2
    unfold spec_l3Number.l0
    repeat' first | (with_reducible first | exact ih0 _ _ _ | exact LeO.refl _ | exact LeO.none _ | refine LeO.ite ?_ ?_ | refine LeO.bind ?_ (fun _ => ?_)) | exact LeO.none _ | refine LeO.ite ?_ ?_ | refine LeO.bind ?_ (fun _ => ?_)
theorem spec_l3Number.mono : ∀ a0 a1 k, LeO (spec_l3Number.f k a0 a1) (spec_l3Number.f (k + 1) a0 a1) := by
 intro a0 a1 k
 have ih0 := spec_l3Number.mono_l k
 unfold spec_l3Number.f
 repeat' first | (with_reducible first | exact ih0 _ _ _ | exact LeO.refl _ | exact LeO.none _ | refine LeO.ite ?_ ?_ | refine LeO.bind ?_ (fun _ => ?_)) | exact LeO.none _ | refine LeO.ite ?_ ?_ | refine LeO.bind ?_ (fun _ => ?_)
theorem spec_l3Number.calls (k : Nat) (a0 : Int) (a1 : Int) (r : ByteArray) (w : World) (h : spec_l3Number.f k a0 a1 = some r) :
 Calls Tryz.prog 118 #[.int .i64 a0, .int .i64 a1] w fun e w' => e = .returned (.string r) ∧ Below w.heap.size w w' := by
 have HB := a0_ (Below.refl w.heap.size w)
 have H := h
 clear h
 unfold spec_l3Number.f at H
 by_cases c3 : 0 ≤ a1
 case neg =>
  rw [if_neg c3] at H
  exact absurd H (by simp)
 rw [if_pos c3] at H
 have c3b0 := eq_true c3
 have c3b1 := decide_eq_true c3
 clear c3
 by_cases c4 : (a1 : Int).toNat ≤ 281474976710656
 case neg =>
  rw [if_neg c4] at H
  exact absurd H (by simp)
 rw [if_pos c4] at H
 have c4b0 := eq_true c4
 have c4b1 := decide_eq_true c4
 clear c4
 obtain ⟨y144, hy144⟩ : ∃ y_ : List Int, y_ = (List.replicate (a1 : Int).toNat 0) := ⟨_, rfl⟩
 rw [← hy144] at H
 have Ny144 := a0_ hy144
 clear hy144
 have H' := a0_ H
 clear H
 go_enter Tryz.func118, Tryz.ntmps118
 go_wp2_with (first | ((with_reducible refine gate_dst (N := 8) rfl ?_); refine Kd.R_make (Kd.int .u8) _ 5 rfl (N := 8) rfl 43 _ _ rfl a1 rfl rfl Tryz.underlying43 (.int .u8 0) 1 info5 rfl (by decide) (by omega) 0 (ok := fun _ => True) (okp := fun _ => True) rfl (fun _ hk => hk) trivial (dec_) (Nat.le_trans (Nat.mul_le_mul_right _ (dec_ : a1.toNat ≤ 281474976710656)) (by omega)) (Below.refl _ _) (Nat.le_refl _) ?_; intro v145 w5 ho6 hb hg_ hnew_; clear hg_ hnew_; (first | rw [← Ny144.out] at ho6 | (simp only [Int.reduceToNat] at ho6; rw [← Ny144.out] at ho6)); have HO146 := a0_ (Kd.R_lower ho6 (below_size bq0_)); replace HB := a0_ (below_step bq0_ hb); clear hb ho6))
 go_loopg [0, 6] k (fun kq v0 v6 w' => ∃ (x0_1 : Int) (x5_1 : List Int) (x6_1 : Int), v0 = .int .i64 x0_1 ∧ v6 = .int .i64 x6_1 ∧ Aside0 (spec_l3Number.l0 kq x0_1 x5_1 x6_1 = some r) ∧ Aside0 (kq ≤ k) ∧ Aside0 (Kd.R (Kd.int .u8) 5 w' w.heap.size (fun _ => True) v145 x5_1) ∧ Aside0 (Below w.heap.size w w'))
 case atStart => exact ⟨(a0), (y144), (wrap64 (a1 - 1)), rs_, rs_, H', ⟨Nat.le_refl _⟩, ⟨kR_ HO146.out⟩, ⟨bq0_⟩⟩
 case round =>
  clear H'
  try clear c3
  try clear c3b0
  try clear c3b1
  try clear c4
  try clear c4b0
  try clear c4b1
  obtain ⟨x0_1, x5_1, x6_1, rfl, rfl, HA, HK1, HO_5, HB⟩ := hrel
  cases gk with
  | zero => exact absurd HA.out (by simp [spec_l3Number.l0])
  | succ k1 =>
   have H := HA.out
   clear HA
   simp only [spec_l3Number.l0] at H
   by_cases c7 : x6_1 ≥ 0
   case neg =>
    rw [if_neg c7] at H
    have c7b0 := decide_eq_false c7
    clear c7
    obtain rfl := Option.some.inj H
    have hcv13 := own_string (P := Tryz.prog) Tryz.underlying43 Tryz.underlying5 Tryz.underlying9 (Kd.own_of_R HO_5.out)
    go_wp2
    go_ret
    exact ⟨rr_, bq0_⟩
   rw [if_pos c7] at H
   have c7b0 := decide_eq_true c7
   clear c7
   by_cases c8 : 0 ≤ x6_1
   case neg =>
    rw [if_neg c8] at H
    exact absurd H (by simp)
   rw [if_pos c8] at H
   have c8b0 := decide_eq_true c8
   clear c8
   by_cases c9 : x6_1 < (x5_1.length : Int)
   case neg =>
    rw [if_neg c9] at H
    exact absurd H (by simp)
   rw [if_pos c9] at H
   have c9b0 := decide_eq_true c9
   clear c9
   obtain ⟨y147, hy147⟩ : ∃ y_ : List Int, y_ = (x5_1.set (x6_1 : Int).toNat ((x0_1) % 256)) := ⟨_, rfl⟩
   rw [← hy147] at H
   have Ny147 := a0_ hy147
   clear hy147
   have H' := a0_ H
   clear H
   have p10 : 0 ≤ (x6_1 : Int) := dec_
   have q10 : (x6_1 : Int) < ((x5_1.length : Int) : Int) := dec_
   obtain ⟨go10, co10, eo10, gb10, gl10, cl10, HG10⟩ := Kd.R_form HO_5.out (by omega)
   (first | cases eo10 | (injection eo10 with ea_ en_ ec_; (first | subst ea_ | (injection ea_ with ea_; subst ea_)); subst ec_; clear en_))
   have GB10 := a0_ gb10
   have GG10 := a0_ HG10
   clear gb10 gl10 HG10
   obtain ⟨hx10_0, hf10_0⟩ := Kd.R_celln 0 HO_5.out (x6_1 : Int) p10 q10
   replace p10 := eq_true p10
   replace q10 := eq_true q10
   have HP11 := Kd.R_putg HO_5.out (x6_1 : Int) ((x0_1) % 256)
   go_wp2_with (first | ((with_reducible refine gate_store (t := 5) (p := 19) rfl ?_); refine store_event (t := 5) (p := 19) (v := ?vo_w12) (w1 := (wr.setCell ⟨go10, (x6_1 : Int).toNat, none⟩ (.int .u8 ((x0_1) % 256)))) ?hg ?ho ?hn ?hr ?_; (case ho => rfl); (case hg => rfl); (case hn => rfl); (case hr => first | (go_simp; done) | (go_simp; rfl)); intro w12 hw; have hg : wr.grownBy w12 (some go10) := (by rw [hw]; exact HP11.2); have hp_ : Kd.R (Kd.int .u8) 5 w12 w.heap.size (fun _ => True) (.slice (some ⟨go10, 0, none⟩) x5_1.length co10) y147 := (by rw [hw, Ny147.out]; exact HP11.1); clear HP11; replace HO_5 := a0_ (hp_); replace HB := a0_ ((by rw [hw]; exact below_set (HB.out) GB10.out : Below w.heap.size w w12)); clear hg hw hp_))
   go_roundg k1
   case measure => have := HK1.out; omega
   case rel => exact ⟨(x0_1 / 256), (y147), (wrap64 (x6_1 - 1)), rs_, rs_, H', jl_ HK1, ⟨kR_ HO_5.out⟩, ⟨bq0_⟩⟩
def spec_l3Less.f (a0 : Bool) : Option (Int) := if a0 = true then (some (-1)) else (some 1)
theorem spec_l3Less.calls (a0 : Bool) (r : Int) (w : World) (h : spec_l3Less.f a0 = some r) :
 Calls Tryz.prog 129 #[.bool a0] w fun e w' => e = .returned (.int .i64 r) ∧ Drawn0 w w' := by
 have H := h
 clear h
 unfold spec_l3Less.f at H
 by_cases c2 : a0 = true
 case pos =>
  subst c2
  rw [if_pos rfl] at H
  obtain rfl := Option.some.inj H
  go_enter Tryz.func129, Tryz.ntmps129
  go_wp2
  go_ret
  exact ⟨rs_, dr_⟩
 replace c2 := Bool.eq_false_iff.mpr c2
 subst c2
 rw [if_neg ff_] at H
 obtain rfl := Option.some.inj H
 go_enter Tryz.func129, Tryz.ntmps129
 go_wp2
 go_ret
 exact ⟨rs_, dr_⟩
mutual
def spec_l3Sets.l0 : Nat → List (S83) → List (S45) → Int → Int → Option ((List (S83)) × Bool)
 | 0, _, _, _, _ => none
 | k + 1, x4, x8, x9, x10 => if x10 < x9 then (if 0 ≤ x10 then (if x10 < (x8.length : Int) then (if (wrap64 ((x4.length : Int) - 1)) ≥ 0 then (if 0 ≤ (wrap64 ((x4.length : Int) - 1)) then (if (wrap64 ((x4.length : Int) - 1)) < (x4.length : Int) then (if ((rd_T83 x4 (wrap64 ((x4.length : Int) - 1))).f0).toList = ((rd_T45 x8 x10).f0).toList then (spec_l3Sets.j1 k x4 (wrap64 ((x4.length : Int) - 1)) x8 x9 x10 (((rd_T83 x4 (wrap64 ((x4.length : Int) - 1))).f1) == ((rd_T45 x8 x10).f1)) ((rd_T45 x8 x10).f0) ((rd_T45 x8 x10).f1) ((rd_T45 x8 x10).f2) ((rd_T45 x8 x10).f3)) else (spec_l3Sets.j1 k x4 (wrap64 ((x4.length : Int) - 1)) x8 x9 x10 false ((rd_T45 x8 x10).f0) ((rd_T45 x8 x10).f1) ((rd_T45 x8 x10).f2) ((rd_T45 x8 x10).f3))) else (none)) else (none)) else (spec_l3Sets.j1 k x4 (wrap64 ((x4.length : Int) - 1)) x8 x9 x10 false ((rd_T45 x8 x10).f0) ((rd_T45 x8 x10).f1) ((rd_T45 x8 x10).f2) ((rd_T45 x8 x10).f3))) else (none)) else (none)) else (some (x4, decide ((x4.length : Int) ≤ 40)))
def spec_l3Sets.j1 : Nat → List (S83) → Int → List (S45) → Int → Int → Bool → ByteArray → Int → Int → ByteArray → Option ((List (S83)) × Bool)
 | 0, _, _, _, _, _, _, _, _, _, _ => none
 | k + 1, x4, x7, x8, x9, x10, x38, x318000, x318001, x318002, x318003 => if x38 = true then (if 0 ≤ x7 then (if x7 < (x4.length : Int) then (if ((rd_T83 x4 x7).f2) = x318002 then (if ((rd_T83 x4 x7).f3).length < 8796093022208 then (spec_l3Sets.l0 k (x4.set (x7 : Int).toNat (⟨(rd_T83 x4 x7).f0, (rd_T83 x4 x7).f1, (rd_T83 x4 x7).f2, (((rd_T83 x4 x7).f3) ++ [x318003])⟩ : S83)) x8 x9 (wrap64 (x10 + 1))) else (none)) else (some (([] : List (S83)), false))) else (none)) else (none)) else (if x4.length < 2513169434916 then (spec_l3Sets.l0 k (x4 ++ [(⟨x318000, x318001, x318002, (([x318003] : List ByteArray))⟩ : S83)]) x8 x9 (wrap64 (x10 + 1))) else (none))
end
def spec_l3Sets.f (k : Nat) (l0 : List (S45)) : Option ((List (S83)) × Bool) := spec_l3Sets.l0 k ([] : List (S83)) l0 (l0.length : Int) 0
def spec_l3Sets.T6 : Bool × List (List Nat × List Nat) := (true, [([], []), ([0], [0]), ([1], [1]), ([2], [2]), ([2], [2]), ([3, 4, 2], [2, 3, 4]), ([5, 2], [2, 5]), ([6, 2], [2, 6]), ([2], [2]), ([8, 2], [2, 8]), ([7, 9, 2], [2, 7, 9]), ([2, 10], [2, 10]), ([11, 2], [11]), ([12], [12]), ([12], [12]), ([13, 14, 12], [12, 13, 14]), ([15, 12], [12, 15]), ([16, 12], [12, 16]), ([12], [12]), ([18, 12], [12, 18]), ([17, 19, 12], [12, 17, 19]), ([12, 20], [12, 20])])
def spec_l3Sets.B6 : List Nat := [0, 1, 3, 7, 7, 31, 63, 127, 7, 263, 1023, 2047, 4095, 8191, 8191, 32767, 65535, 131071, 8191, 270335, 1048575, 2097151]
theorem spec_l3Sets.tab6 : rtab .any (opsOf Tryz.f63 6) = spec_l3Sets.T6 := by kernel_rfl
theorem spec_l3Sets.bits6 : waitsOk spec_l3Sets.T6.2 spec_l3Sets.B6 = true := by kernel_rfl
def spec_l3Sets.T7 : Bool × List (List Nat × List Nat) := (true, [([], []), ([], []), ([0, 1], [0, 1]), ([2], [2]), ([3], [3]), ([], []), ([5], [5]), ([4, 6], [4, 6])])
def spec_l3Sets.B7 : List Nat := [0, 0, 3, 7, 15, 0, 32, 127]
theorem spec_l3Sets.tab7 : rtab .any (opsOf Tryz.f63 7) = spec_l3Sets.T7 := by kernel_rfl
theorem spec_l3Sets.bits7 : waitsOk spec_l3Sets.T7.2 spec_l3Sets.B7 = true := by kernel_rfl
def spec_l3Sets.T9 : Bool × List (List Nat × List Nat) := (true, [([], []), ([], []), ([], []), ([], []), ([2, 3], [2, 3]), ([4], [4]), ([5], [5]), ([], []), ([7], [7]), ([8], [8]), ([6, 9], [6, 9]), ([0, 1, 0, 1, 2, 3, 4, 5, 6, 7, 8, 9, 10], [0, 1]), ([11, 0, 1, 2, 3, 4, 5, 6, 7, 8, 9, 10], [11]), ([12, 10, 10, 0, 1, 2, 3, 4, 5, 6, 7, 8, 9, 10], [10, 12])])
def spec_l3Sets.B9 : List Nat := [0, 0, 0, 0, 12, 28, 60, 0, 128, 384, 1020, 2047, 4095, 8191]
theorem spec_l3Sets.tab9 : rtab .any (opsOf Tryz.f63 9) = spec_l3Sets.T9 := by kernel_rfl
theorem spec_l3Sets.bits9 : waitsOk spec_l3Sets.T9.2 spec_l3Sets.B9 = true := by kernel_rfl
theorem spec_l3Sets.calls (k : Nat) (A0 : Option Addr) (c0 : Nat) (l0 : List (S45)) (r1 : List (S83)) (r2 : Bool) (w : World) (hr0 : Kd.C k45 w A0 l0.length l0) (hc0 : l0.length ≤ c0) (h : spec_l3Sets.f k l0 = some (r1, r2)) :
 Calls Tryz.prog 63 #[.slice A0 l0.length c0] w fun e w' => ∃ v0_ : Value, e = .returned (.tuple #[v0_, .bool r2]) ∧ Kd.S k83 83 w' w.heap.size (fun _ => True) v0_ r1 ∧ Below w.heap.size w w' := by
 have hu45 := Tryz.underlying45
 have hu83 := Tryz.underlying83
 have HR0 := a0_ hr0
 have HC0 := a0_ hc0
 clear hr0 hc0
 have HB := a0_ (Below.refl w.heap.size w)
 have H := h
 clear h
 unfold spec_l3Sets.f at H
 have H' := a0_ H
 clear H
 go_enter Tryz.func63, Tryz.ntmps63
 go_wp2
 go_loopg [4, 10] k (fun kq v4 v10 w' => ∃ (x4_1 : List (S83)) (x10_1 : Int), v10 = .int .i64 x10_1 ∧ Aside0 (spec_l3Sets.l0 kq x4_1 l0 (l0.length : Int) x10_1 = some (r1, r2)) ∧ Aside0 (kq ≤ k) ∧ Aside0 (Kd.S k83 83 w' w.heap.size (fun _ => True) v4 x4_1) ∧ Aside0 (Below w.heap.size w w'))
 case atStart => exact ⟨(([] : List (S83))), (0), rs_, H', ⟨Nat.le_refl _⟩, ⟨by first | exact Kd.S_nil _ _ _ _ _ | exact Kd.N_nil _ _ _ _ _ | exact Kd.V_nil _ _ _ _ _ | exact Kd.Q_nil _ _ _ _ _ | exact Kd.R_nil _ _ _ _ _⟩, ⟨bq0_⟩⟩
 case round =>
  clear H'
  obtain ⟨x4_1, x10_1, rfl, HA, HK1, HO_4, HB⟩ := hrel
  cases gk with
  | zero => exact absurd HA.out (by simp [spec_l3Sets.l0])
  | succ k1 =>
   have H := HA.out
   clear HA
   simp only [spec_l3Sets.l0] at H
   by_cases c2 : x10_1 < (l0.length : Int)
   case neg =>
    rw [if_neg c2] at H
    have c2b0 := decide_eq_false c2
    clear c2
    simp only [Option.some.injEq, Prod.mk.injEq] at H
    obtain ⟨rfl, rfl⟩ := H
    obtain ⟨Ao41, co41, eo41⟩ := Kd.S_slice HO_4.out
    subst eo41
    go_wp2
    go_ret2
    exact ⟨_, rr_, kS_ HO_4.out, bq0_⟩
   rw [if_pos c2] at H
   have c2b0 := decide_eq_true c2
   clear c2
   by_cases c3 : 0 ≤ x10_1
   case neg =>
    rw [if_neg c3] at H
    exact absurd H (by simp)
   rw [if_pos c3] at H
   have c3b0 := decide_eq_true c3
   clear c3
   by_cases c4 : x10_1 < (l0.length : Int)
   case neg =>
    rw [if_neg c4] at H
    exact absurd H (by simp)
   rw [if_pos c4] at H
   have c4b0 := decide_eq_true c4
   clear c4
   have HC5 := a0_ H
   clear H
   have p316 := t0_ (x10_1)
   have q316 := tl_ (x10_1) (l0.length)
   obtain ⟨ad316, e316, -, -, -, -, hx316_0, hx316_1, hx316_2, hx316_3⟩ := rp_ HB (at_T45 HR0.out x10_1 (of_eq_true p316) (of_eq_true q316))
   cases e316
   go_upto_region 6 with (first | ((with_reducible refine gate_dst (N := 6) rfl ?_); refine boxS_ 6 #[.string (⟨#[]⟩ : ByteArray), .int .i64 0, .int .i64 0, .string (⟨#[]⟩ : ByteArray)] 45 (fun gb317 hg w6 hbox hb => ?_); replace HO_4 := a0_ (Kd.S_below (by (with_reducible repeat (first | apply Kd.S_alloc | apply Kd.S_drewN | apply Kd.S_drew)); exact HO_4.out) hb); have BK317 := a0_ (hbox); have GW317 := a0_ (gw_ hg : w.heap.size ≤ gb317); replace HB := a0_ (below_step bq0_ hb); have GE317 := GW317; clear hb hbox hg; obtain ⟨_, _, _, _, _, _, _, _⟩ := bk4_ BK317.out; obtain ⟨Ao8, co8, eo8⟩ := Kd.S_slice HO_4.out; subst eo8))
   (try simp only [Act.put, List.setIfInBounds_toArray, List.set_cons_zero, List.set_cons_succ])
   go_cut [38] (fun v38 wc => ∃ (kq : Nat) (x38_4 : Bool), v38 = .bool x38_4 ∧ Aside0 (spec_l3Sets.j1 kq x4_1 (wrap64 ((x4_1.length : Int) - 1)) l0 (l0.length : Int) x10_1 x38_4 ((rd_T45 l0 x10_1).f0) ((rd_T45 l0 x10_1).f1) ((rd_T45 l0 x10_1).f2) ((rd_T45 l0 x10_1).f3) = some (r1, r2)) ∧ Aside0 (kq ≤ k1) ∧ Aside0 (Kd.S k83 83 wc w.heap.size (fun _ => True) (.slice Ao8 x4_1.length co8) x4_1) ∧ Aside0 (wc.heap[gb317]? = some (.cells #[.string ((rd_T45 l0 x10_1).f0), .int .i64 ((rd_T45 l0 x10_1).f1), .int .i64 ((rd_T45 l0 x10_1).f2), .string ((rd_T45 l0 x10_1).f3)] 45 (0, 0))) ∧ Aside0 (Below w.heap.size w wc))
   case first =>
    have H := HC5.out
    clear HC5
    by_cases c9 : (wrap64 ((x4_1.length : Int) - 1)) ≥ 0
    case neg =>
     rw [if_neg c9] at H
     have c9b0 := decide_eq_false c9
     clear c9
     (first | rw [c9b0] | (simp only [i64_w, i32_w]; rw [c9b0]) | skip)
     have H' := a0_ H
     clear H
     try go_wp2
     generalize hE_ : ((((w6.setCell ⟨gb317, 0, none⟩ (.string ((rd_T45 l0 x10_1).f0))).setCell ⟨gb317, 1, none⟩ (.int .i64 ((rd_T45 l0 x10_1).f1))).setCell ⟨gb317, 2, none⟩ (.int .i64 ((rd_T45 l0 x10_1).f2))).setCell ⟨gb317, 3, none⟩ (.string ((rd_T45 l0 x10_1).f3))) = w18
     have n0_ : Aside0 (Kd.S k83 83 w18 w.heap.size (fun _ => True) (.slice Ao8 x4_1.length co8) x4_1) := ⟨by rw [← hE_]; exact kS_ (Kd.S_mono (sf4_ gb317 (Kd.S_types HO_4.out BK317.out (by decide)) (fun _ hk => hk.2) (.string ((rd_T45 l0 x10_1).f0)) (.int .i64 ((rd_T45 l0 x10_1).f1)) (.int .i64 ((rd_T45 l0 x10_1).f2)) (.string ((rd_T45 l0 x10_1).f3))) (fun _ hk => trivial))⟩
     have n1_ : Aside0 (w18.heap[gb317]? = some (.cells #[.string ((rd_T45 l0 x10_1).f0), .int .i64 ((rd_T45 l0 x10_1).f1), .int .i64 ((rd_T45 l0 x10_1).f2), .string ((rd_T45 l0 x10_1).f3)] 45 (0, 0))) := ⟨by rw [← hE_]; exact put4_ BK317.out⟩
     have n2_ : Aside0 (Below w.heap.size w w18) := ⟨by rw [← hE_]; exact bq1_⟩
     (try clear HO_4)
     (try clear BK317)
     (try clear HB)
     clear hE_
     have HO_4 := n0_
     have BK317 := n1_
     have HB := n2_
     clear n0_ n1_ n2_
     replace HO_4 := a0_ (Kd.S_drew HO_4.out)
     replace BK317 := a0_ (blk_drew BK317.out)
     replace HB := a0_ (below_drew1 HB.out)
     refine stH_ 22 [] ht_ (fun hHeld => ?_); refine with_tabW spec_l3Sets.tab6 spec_l3Sets.bits6 (fun HT_ HW_ => ?_)
     generalize w18.drew = w19 at HO_4 BK317 HB hHeld ⊢
     refine p_ 0 17 ?_
     refine p_ 1 18 ?_
     refine p_ 2 19 ?_
     refine s_ 3 20 ?_
     refine s_ 4 21 ?_
     refine s_ 5 22 ?_
     refine s_ 6 23 ?_
     refine s_ 7 24 ?_
     refine s_ 8 25 ?_
     refine s_ 9 26 ?_
     refine s_ 10 27 ?_
     refine p_ 11 28 ?_
     refine p_ 12 29 ?_
     refine s_ 13 30 ?_
     refine s_ 14 31 ?_
     refine s_ 15 32 ?_
     refine s_ 16 33 ?_
     refine s_ 17 34 ?_
     refine s_ 18 35 ?_
     refine s_ 19 36 ?_
     refine s_ 20 37 ?_
     refine p_ 21 38 ?_
     refine done_ (done_of HT_.out (by kernel_rfl)) ?_
     try go_wp2
     (try rw [← hji10]); (try rw [← hji21]); skip
     go_meet
     case rel => exact ⟨_, (false), rs_, (by first | exact H' | (rw [hji10]; exact H') | (rw [hji21]; exact H')), jl_ HK1, ⟨kS_ HO_4.out⟩, ⟨bz_⟩, ⟨bq1_⟩⟩
    rw [if_pos c9] at H
    have c9b0 := decide_eq_true c9
    clear c9
    (first | rw [c9b0] | (simp only [i64_w, i32_w]; rw [c9b0]) | skip)
    obtain ⟨ji10, hji10⟩ : ∃ j_ : Int, (wrap64 ((x4_1.length : Int) - 1)) = j_ := ⟨_, rfl⟩
    (first | rw [hji10] at H | simp only [hji10] at H)
    (try rw [hji10] at c9b0)
    have hji10w : (IntKind.i64.wrap ((x4_1.length : Int) - 1)) = ji10 := (i64_w _).trans hji10
    by_cases c11 : 0 ≤ (ji10)
    case neg =>
     rw [if_neg c11] at H
     exact absurd H (by simp)
    rw [if_pos c11] at H
    have c11b0 := decide_eq_true c11
    clear c11
    by_cases c12 : (ji10) < (x4_1.length : Int)
    case neg =>
     rw [if_neg c12] at H
     exact absurd H (by simp)
    rw [if_pos c12] at H
    have c12b0 := decide_eq_true c12
    clear c12
    by_cases c13 : ((rd_T83 x4_1 (ji10)).f0).toList = ((rd_T45 l0 x10_1).f0).toList
    case neg =>
     rw [if_neg c13] at H
     have c13b0 := beq_eq_false_iff_ne.mpr c13
     have c13b1 := bne_iff_ne.mpr c13
     have H' := a0_ H
     clear H
     try go_wp2
     generalize hE_ : ((((w6.setCell ⟨gb317, 0, none⟩ (.string ((rd_T45 l0 x10_1).f0))).setCell ⟨gb317, 1, none⟩ (.int .i64 ((rd_T45 l0 x10_1).f1))).setCell ⟨gb317, 2, none⟩ (.int .i64 ((rd_T45 l0 x10_1).f2))).setCell ⟨gb317, 3, none⟩ (.string ((rd_T45 l0 x10_1).f3))) = w16
     have n0_ : Aside0 (Kd.S k83 83 w16 w.heap.size (fun _ => True) (.slice Ao8 x4_1.length co8) x4_1) := ⟨by rw [← hE_]; exact kS_ (Kd.S_mono (sf4_ gb317 (Kd.S_types HO_4.out BK317.out (by decide)) (fun _ hk => hk.2) (.string ((rd_T45 l0 x10_1).f0)) (.int .i64 ((rd_T45 l0 x10_1).f1)) (.int .i64 ((rd_T45 l0 x10_1).f2)) (.string ((rd_T45 l0 x10_1).f3))) (fun _ hk => trivial))⟩
     have n1_ : Aside0 (w16.heap[gb317]? = some (.cells #[.string ((rd_T45 l0 x10_1).f0), .int .i64 ((rd_T45 l0 x10_1).f1), .int .i64 ((rd_T45 l0 x10_1).f2), .string ((rd_T45 l0 x10_1).f3)] 45 (0, 0))) := ⟨by rw [← hE_]; exact put4_ BK317.out⟩
     have n2_ : Aside0 (Below w.heap.size w w16) := ⟨by rw [← hE_]; exact bq1_⟩
     (try clear HO_4)
     (try clear BK317)
     (try clear HB)
     clear hE_
     have HO_4 := n0_
     have BK317 := n1_
     have HB := n2_
     clear n0_ n1_ n2_
     replace HO_4 := a0_ (Kd.S_drew HO_4.out)
     replace BK317 := a0_ (blk_drew BK317.out)
     replace HB := a0_ (below_drew1 HB.out)
     have p318 : 0 ≤ ((ji10) : Int) := dec_
     have q318 : (ji10) < (x4_1.length : Int) := dec_
     obtain ⟨ad318, A318_3, c318_3, e318, hx318_0, hx318_1, hx318_2, hx318_3, hl318_3, hi318_3⟩ := at_T83 (Kd.S_reads' HO_4.out).2.2 (ji10) p318 q318
     cases e318
     obtain ⟨ce318, hce318, hMe318, hcc318⟩ := Kd.S_get HO_4.out z83 (ji10) p318 (by first | exact q318 | exact dec_ | (have e_ := (Kd.S_reads' HO_4.out).1; omega))
     obtain ⟨ve318_3, rfl, ge318_3⟩ := k83_openM hMe318
     have hv318_3 := hcc318 3 _ rfl
     rw [add_field _ _ 3 (by omega)] at hv318_3
     replace hv318_3 := Option.some.inj (hv318_3.symm.trans hx318_3)
     rw [hv318_3] at ge318_3
     have HL318_3 := a0_ (show Kd.R Kd.string 9 _ _ _ _ ((rd_T83 x4_1 (ji10)).f3) from ge318_3)
     clear hv318_3 ge318_3
     have HX318_3 := a0_ hx318_3
     clear hcc318 hce318
     have HR318_3 := a0_ hi318_3
     have HC318_3 := a0_ hl318_3
     clear hi318_3 hl318_3
     replace p318 := eq_true p318
     replace q318 := eq_true q318
     refine stH_ 22 [] (cb_ BK317.out (e4_ hx318_0 hx318_1 hx318_2 hx318_3)) (fun hHeld => ?_); refine with_tabW spec_l3Sets.tab6 spec_l3Sets.bits6 (fun HT_ HW_ => ?_)
     generalize w16.drew = w17 at HO_4 BK317 HB HL318_3 HR318_3 HX318_3 hx318_0 hx318_1 hx318_2 hx318_3 hHeld ⊢
     refine p_ 0 17 ?_
     refine p_ 1 18 ?_
     refine p_ 2 19 ?_
     refine p_ 3 20 ?_
     refine p_ 4 21 ?_
     refine p_ 5 22 ?_
     refine p_ 6 23 ?_
     refine p_ 8 25 ?_
     refine t_ 7 24 ?_
     refine t_ 9 26 ?_
     refine p_ 10 27 ?_
     refine p_ 11 28 ?_
     refine p_ 12 29 ?_
     refine s_ 13 30 ?_
     refine s_ 14 31 ?_
     refine s_ 15 32 ?_
     refine s_ 16 33 ?_
     refine s_ 17 34 ?_
     refine s_ 18 35 ?_
     refine s_ 19 36 ?_
     refine s_ 20 37 ?_
     refine p_ 21 38 ?_
     refine done_ (done_of HT_.out (by kernel_rfl)) ?_
     try go_wp2
     (try rw [← hji10]); (try rw [← hji21]); skip
     go_meet
     case rel => exact ⟨_, (false), rs_, (by first | exact H' | (rw [hji10]; exact H') | (rw [hji21]; exact H')), jl_ HK1, ⟨kS_ HO_4.out⟩, ⟨bz_⟩, ⟨bq1_⟩⟩
    rw [if_pos c13] at H
    have c13b0 := beq_iff_eq.mpr c13
    have c13b1 := bne_eq_false_iff_eq.mpr c13
    clear c13
    have H' := a0_ H
    clear H
    try go_wp2
    generalize hE_ : ((((w6.setCell ⟨gb317, 0, none⟩ (.string ((rd_T45 l0 x10_1).f0))).setCell ⟨gb317, 1, none⟩ (.int .i64 ((rd_T45 l0 x10_1).f1))).setCell ⟨gb317, 2, none⟩ (.int .i64 ((rd_T45 l0 x10_1).f2))).setCell ⟨gb317, 3, none⟩ (.string ((rd_T45 l0 x10_1).f3))) = w14
    have n0_ : Aside0 (Kd.S k83 83 w14 w.heap.size (fun _ => True) (.slice Ao8 x4_1.length co8) x4_1) := ⟨by rw [← hE_]; exact kS_ (Kd.S_mono (sf4_ gb317 (Kd.S_types HO_4.out BK317.out (by decide)) (fun _ hk => hk.2) (.string ((rd_T45 l0 x10_1).f0)) (.int .i64 ((rd_T45 l0 x10_1).f1)) (.int .i64 ((rd_T45 l0 x10_1).f2)) (.string ((rd_T45 l0 x10_1).f3))) (fun _ hk => trivial))⟩
    have n1_ : Aside0 (w14.heap[gb317]? = some (.cells #[.string ((rd_T45 l0 x10_1).f0), .int .i64 ((rd_T45 l0 x10_1).f1), .int .i64 ((rd_T45 l0 x10_1).f2), .string ((rd_T45 l0 x10_1).f3)] 45 (0, 0))) := ⟨by rw [← hE_]; exact put4_ BK317.out⟩
    have n2_ : Aside0 (Below w.heap.size w w14) := ⟨by rw [← hE_]; exact bq1_⟩
    (try clear HO_4)
    (try clear BK317)
    (try clear HB)
    clear hE_
    have HO_4 := n0_
    have BK317 := n1_
    have HB := n2_
    clear n0_ n1_ n2_
    replace HO_4 := a0_ (Kd.S_drew HO_4.out)
    replace BK317 := a0_ (blk_drew BK317.out)
    replace HB := a0_ (below_drew1 HB.out)
    have p318 : 0 ≤ ((ji10) : Int) := dec_
    have q318 : (ji10) < (x4_1.length : Int) := dec_
    obtain ⟨ad318, A318_3, c318_3, e318, hx318_0, hx318_1, hx318_2, hx318_3, hl318_3, hi318_3⟩ := at_T83 (Kd.S_reads' HO_4.out).2.2 (ji10) p318 q318
    cases e318
    obtain ⟨ce318, hce318, hMe318, hcc318⟩ := Kd.S_get HO_4.out z83 (ji10) p318 (by first | exact q318 | exact dec_ | (have e_ := (Kd.S_reads' HO_4.out).1; omega))
    obtain ⟨ve318_3, rfl, ge318_3⟩ := k83_openM hMe318
    have hv318_3 := hcc318 3 _ rfl
    rw [add_field _ _ 3 (by omega)] at hv318_3
    replace hv318_3 := Option.some.inj (hv318_3.symm.trans hx318_3)
    rw [hv318_3] at ge318_3
    have HL318_3 := a0_ (show Kd.R Kd.string 9 _ _ _ _ ((rd_T83 x4_1 (ji10)).f3) from ge318_3)
    clear hv318_3 ge318_3
    have HX318_3 := a0_ hx318_3
    clear hcc318 hce318
    have HR318_3 := a0_ hi318_3
    have HC318_3 := a0_ hl318_3
    clear hi318_3 hl318_3
    replace p318 := eq_true p318
    replace q318 := eq_true q318
    have p319 : 0 ≤ ((ji10) : Int) := dec_
    have q319 : (ji10) < (x4_1.length : Int) := dec_
    obtain ⟨ad319, A319_3, c319_3, e319, hx319_0, hx319_1, hx319_2, hx319_3, hl319_3, hi319_3⟩ := at_T83 (Kd.S_reads' HO_4.out).2.2 (ji10) p319 q319
    obtain rfl : ad318 = ad319 := (by injection e319)
    obtain ⟨ce319, hce319, hMe319, hcc319⟩ := Kd.S_get HO_4.out z83 (ji10) p319 (by first | exact q319 | exact dec_ | (have e_ := (Kd.S_reads' HO_4.out).1; omega))
    obtain ⟨ve319_3, rfl, ge319_3⟩ := k83_openM hMe319
    have hv319_3 := hcc319 3 _ rfl
    rw [add_field _ _ 3 (by omega)] at hv319_3
    replace hv319_3 := Option.some.inj (hv319_3.symm.trans hx319_3)
    rw [hv319_3] at ge319_3
    have HL319_3 := a0_ (show Kd.R Kd.string 9 _ _ _ _ ((rd_T83 x4_1 (ji10)).f3) from ge319_3)
    clear hv319_3 ge319_3
    have HX319_3 := a0_ hx319_3
    clear hcc319 hce319
    have HR319_3 := a0_ hi319_3
    have HC319_3 := a0_ hl319_3
    clear hi319_3 hl319_3
    replace p319 := eq_true p319
    replace q319 := eq_true q319
    have ea_ := Option.some.inj (hx318_3.symm.trans hx319_3)
    injection ea_ with ea_ en_ ec_
    subst ea_
    subst ec_
    clear en_
    refine stH_ 22 [] (cb_ BK317.out (c4_ hx318_0 hx318_1 hx318_2 hx318_3 (e4_ hx319_0 hx319_1 hx319_2 hx319_3))) (fun hHeld => ?_); refine with_tabW spec_l3Sets.tab6 spec_l3Sets.bits6 (fun HT_ HW_ => ?_)
    generalize w14.drew = w15 at HO_4 BK317 HB HL318_3 HL319_3 HR318_3 HR319_3 HX318_3 HX319_3 hx318_0 hx318_1 hx318_2 hx318_3 hx319_0 hx319_1 hx319_2 hx319_3 hHeld ⊢
    refine p_ 0 17 ?_
    refine p_ 1 18 ?_
    refine p_ 2 19 ?_
    refine p_ 3 20 ?_
    refine p_ 4 21 ?_
    refine p_ 5 22 ?_
    refine p_ 6 23 ?_
    refine p_ 8 25 ?_
    refine t_ 7 24 ?_
    refine t_ 9 26 ?_
    refine p_ 10 27 ?_
    refine p_ 11 28 ?_
    refine p_ 12 29 ?_
    refine p_ 13 30 ?_
    refine p_ 14 31 ?_
    refine p_ 15 32 ?_
    refine p_ 16 33 ?_
    refine p_ 18 35 ?_
    refine t_ 17 34 ?_
    refine t_ 19 36 ?_
    refine p_ 20 37 ?_
    refine p_ 21 38 ?_
    refine done_ (done_of HT_.out (by kernel_rfl)) ?_
    try go_wp2
    (try rw [← hji10]); (try rw [← hji21]); skip
    go_meet
    case rel => exact ⟨_, ((((rd_T83 x4_1 (ji10)).f1) == ((rd_T45 l0 x10_1).f1))), (by first | rfl | (simp; done) | (simp only [← hji10] <;> (first | rfl | simp)) | (simp [*]; done)), (by first | exact H' | (rw [hji10]; exact H') | (rw [hji21]; exact H')), jl_ HK1, ⟨kS_ HO_4.out⟩, ⟨bz_⟩, ⟨bq1_⟩⟩
   case rest =>
    clear HC5
    try clear c3
    obtain ⟨kq, x38_4, rfl, HA, HJ4, HO_4, BK317, HB⟩ := hcut
    cases kq with
    | zero => exact absurd HA.out (by simp [spec_l3Sets.j1])
    | succ kj4 =>
     have H := HA.out
     clear HA
     simp only [spec_l3Sets.j1] at H
     by_cases c20 : x38_4 = true
     case neg =>
      replace c20 := Bool.eq_false_iff.mpr c20
      subst c20
      rw [if_neg ff_] at H
      obtain ⟨y326, hy326⟩ : ∃ y_ : List ByteArray, y_ = (([((rd_T45 l0 x10_1).f3)] : List ByteArray)) := ⟨_, rfl⟩
      rw [← hy326] at H
      have Ny326 := a0_ hy326
      clear hy326
      by_cases c35 : x4_1.length < 2513169434916
      case neg =>
       rw [if_neg c35] at H
       exact absurd H (by simp)
      rw [if_pos c35] at H
      have LMc35 := a0_ c35
      clear c35
      obtain ⟨y329, hy329⟩ : ∃ y_ : List (S83), y_ = (x4_1 ++ [(⟨((rd_T45 l0 x10_1).f0), ((rd_T45 l0 x10_1).f1), ((rd_T45 l0 x10_1).f2), y326⟩ : S83)]) := ⟨_, rfl⟩
      rw [← hy329] at H
      have Ny329 := a0_ hy329
      clear hy329
      have H' := a0_ H
      clear H
      obtain ⟨_, _, _, _, _, _, _, _⟩ := bk4_ BK317.out
      go_wp2_with (first | ((with_reducible refine gate_dst (N := 69) rfl ?_); refine ls_ 69 9 ([((rd_T45 l0 x10_1).f3)] : List ByteArray) ?_; intro v327 w37 ho38 hb hg_ hnew_; clear hg_ hnew_; (first | rw [← Ny326.out] at ho38 | (simp only [Int.reduceToNat] at ho38; rw [← Ny326.out] at ho38)); replace HO_4 := a0_ (Kd.S_elder' (by (with_reducible repeat (first | apply Kd.S_alloc | apply Kd.S_drewN | apply Kd.S_drew)); exact HO_4.out) (Kd.R_base ho38) hb); have HO328 := a0_ (Kd.R_lower ho38 (below_size bq1_)); replace BK317 := a0_ (bkB_ BK317 hb); replace HB := a0_ (below_step bq1_ hb); clear hb ho38; obtain ⟨Ao39, co39, eo39⟩ := Kd.R_slice HO328.out; subst eo39) | ((with_reducible refine gate_builtin (b := .append) (xs := #[.tmp 60, .tmp 71]) rfl ?_); at_builtin; refine Kd.S_append k83 (w0 := w) w.heap.size rfl (.tmp 60) (.tmp 71) 30 83 (.agg #[(.string ⟨#[]⟩), (.int .i64 0), (.int .i64 0), (.slice none 0 0)]) 56 rfl Tryz.underlying30 info83 rfl (by decide) (by omega) (.slice Ao8 x4_1.length co8) x4_1 (⟨((rd_T45 l0 x10_1).f0), ((rd_T45 l0 x10_1).f1), ((rd_T45 l0 x10_1).f2), y326⟩ : S83) [.string ((rd_T45 l0 x10_1).f0), .int .i64 ((rd_T45 l0 x10_1).f1), .int .i64 ((rd_T45 l0 x10_1).f2), .slice Ao39 y326.length co39] (fun _ => True) (fun k_ => some k_ = (.slice Ao39 y326.length co39 : Value).ownBlock) rfl rfl ?aP (fun k_ hk_ => ((Kd.R_mono (ok' := fun k_ => ((fun _ => True)) k_ ∧ nw_ k_ Ao8 x4_1.length co8) (Kd.R_apart' (HO328.out) (Kd.S_typed HO_4.out) (by decide)) (fun k_ hk => ⟨trivial, hk.2⟩))).1 k_ hk_.symm) ?aF ?aO ?aB ?aS ?aL ?_; (case aP => exact k83_mkM _ _ _ (⟨((rd_T45 l0 x10_1).f0), ((rd_T45 l0 x10_1).f1), ((rd_T45 l0 x10_1).f2), y326⟩ : S83) (Kd.R_mono (Kd.R_tight rfl (Kd.R_mono (ok' := fun k_ => ((fun _ => True)) k_ ∧ nw_ k_ Ao8 x4_1.length co8) (Kd.R_apart' (HO328.out) (Kd.S_typed HO_4.out) (by decide)) (fun k_ hk => ⟨trivial, hk.2⟩))) (fun _ h_ => h_))); (case aB => exact bq1_); (case aF => exact (fun _ _ => trivial)); (case aO => exact (by (with_reducible repeat (first | apply Kd.S_alloc | apply Kd.S_drewN | apply Kd.S_drew)); exact Kd.S_mono HO_4.out (fun k_ hk => ⟨trivial, fun e_ => hk.2 e_⟩))); (case aS => exact (below_size bq1_)); (case aL => have := LMc35.out; omega); intro v330 w40 ho hb hg hat; rw [← Ny329.out] at ho; replace BK317 := a0_ (blk_grown (g := gb317) (o := .cells #[.string ((rd_T45 l0 x10_1).f0), .int .i64 ((rd_T45 l0 x10_1).f1), .int .i64 ((rd_T45 l0 x10_1).f2), .string ((rd_T45 l0 x10_1).f3)] 45 (0, 0)) (kB_ BK317.out) hg (Kd.S_ne HO_4.out BK317.out (by decide))); replace HB := a0_ (hb); have HO331 := a0_ (ho); clear HO_4 HO328; clear ho hb hg hat))
      go_roundg kj4
      case measure => have := HK1.out; have := HJ4.out; omega
      case rel => exact ⟨(y329), (wrap64 (x10_1 + 1)), rs_, H', jm_ HK1 HJ4, ⟨kS_ HO331.out⟩, ⟨bq1_⟩⟩
     subst c20
     rw [if_pos rfl] at H
     obtain ⟨ji21, hji21⟩ : ∃ j_ : Int, (wrap64 ((x4_1.length : Int) - 1)) = j_ := ⟨_, rfl⟩
     (first | rw [hji21] at H | simp only [hji21] at H)
     have hji21w : (IntKind.i64.wrap ((x4_1.length : Int) - 1)) = ji21 := (i64_w _).trans hji21
     by_cases c22 : 0 ≤ (ji21)
     case neg =>
      rw [if_neg c22] at H
      exact absurd H (by simp)
     rw [if_pos c22] at H
     have c22b0 := decide_eq_true c22
     clear c22
     by_cases c23 : (ji21) < (x4_1.length : Int)
     case neg =>
      rw [if_neg c23] at H
      exact absurd H (by simp)
     rw [if_pos c23] at H
     have c23b0 := decide_eq_true c23
     clear c23
     by_cases c24 : ((rd_T83 x4_1 (ji21)).f2) = ((rd_T45 l0 x10_1).f2)
     case neg =>
      rw [if_neg c24] at H
      have c24b0 := beq_eq_false_iff_ne.mpr c24
      have c24b1 := bne_iff_ne.mpr c24
      simp only [Option.some.injEq, Prod.mk.injEq] at H
      obtain ⟨rfl, rfl⟩ := H
      try go_wp2
      replace HO_4 := a0_ (Kd.S_drew HO_4.out)
      replace BK317 := a0_ (blk_drew BK317.out)
      replace HB := a0_ (below_drew1 HB.out)
      have p320 : 0 ≤ ((ji21) : Int) := dec_
      have q320 : (ji21) < (x4_1.length : Int) := dec_
      obtain ⟨ad320, A320_3, c320_3, e320, hx320_0, hx320_1, hx320_2, hx320_3, hl320_3, hi320_3⟩ := at_T83 (Kd.S_reads' HO_4.out).2.2 (ji21) p320 q320
      cases e320
      obtain ⟨ce320, hce320, hMe320, hcc320⟩ := Kd.S_get HO_4.out z83 (ji21) p320 (by first | exact q320 | exact dec_ | (have e_ := (Kd.S_reads' HO_4.out).1; omega))
      obtain ⟨ve320_3, rfl, ge320_3⟩ := k83_openM hMe320
      have hv320_3 := hcc320 3 _ rfl
      rw [add_field _ _ 3 (by omega)] at hv320_3
      replace hv320_3 := Option.some.inj (hv320_3.symm.trans hx320_3)
      rw [hv320_3] at ge320_3
      have HL320_3 := a0_ (show Kd.R Kd.string 9 _ _ _ _ ((rd_T83 x4_1 (ji21)).f3) from ge320_3)
      clear hv320_3 ge320_3
      have HX320_3 := a0_ hx320_3
      clear hcc320 hce320
      have HR320_3 := a0_ hi320_3
      have HC320_3 := a0_ hl320_3
      clear hi320_3 hl320_3
      replace p320 := eq_true p320
      replace q320 := eq_true q320
      refine stH_ 8 [] (cb_ BK317.out (e4_ hx320_0 hx320_1 hx320_2 hx320_3)) (fun hHeld => ?_); refine with_tabW spec_l3Sets.tab7 spec_l3Sets.bits7 (fun HT_ HW_ => ?_)
      generalize wc.drew = w34 at HO_4 BK317 HB HL320_3 HR320_3 HX320_3 hx320_0 hx320_1 hx320_2 hx320_3 hHeld ⊢
      refine p_ 0 39 ?_
      refine p_ 1 40 ?_
      refine p_ 2 41 ?_
      refine p_ 3 42 ?_
      refine p_ 5 44 ?_
      refine t_ 4 43 ?_
      refine t_ 6 45 ?_
      refine p_ 7 46 ?_
      refine done_ (done_of HT_.out (by kernel_rfl)) ?_
      try go_wp2
      go_ret2
      exact ⟨_, by first | rfl | (simp [errW_none, errW_some] <;> rfl) | (simp only [← hji21]; first | rfl | (simp [errW_none, errW_some] <;> rfl)) | (simp [*, errW_none, errW_some] <;> rfl), by first | exact Kd.S_nil _ _ _ _ _ | exact Kd.N_nil _ _ _ _ _ | exact Kd.V_nil _ _ _ _ _ | exact Kd.Q_nil _ _ _ _ _ | exact Kd.R_nil _ _ _ _ _, bq1_⟩
     rw [if_pos c24] at H
     have c24b0 := beq_iff_eq.mpr c24
     have c24b1 := bne_eq_false_iff_eq.mpr c24
     clear c24
     by_cases c25 : ((rd_T83 x4_1 (ji21)).f3).length < 8796093022208
     case neg =>
      rw [if_neg c25] at H
      exact absurd H (by simp)
     rw [if_pos c25] at H
     have LMc25 := a0_ c25
     clear c25
     obtain ⟨y322, hy322⟩ : ∃ y_ : List ByteArray, y_ = (((rd_T83 x4_1 (ji21)).f3) ++ [((rd_T45 l0 x10_1).f3)]) := ⟨_, rfl⟩
     rw [← hy322] at H
     have Ny322 := a0_ hy322
     clear hy322
     obtain ⟨y325, hy325⟩ : ∃ y_ : List (S83), y_ = (x4_1.set ((ji21) : Int).toNat (⟨(rd_T83 x4_1 (ji21)).f0, (rd_T83 x4_1 (ji21)).f1, (rd_T83 x4_1 (ji21)).f2, y322⟩ : S83)) := ⟨_, rfl⟩
     rw [← hy325] at H
     have Ny325 := a0_ hy325
     clear hy325
     have H' := a0_ H
     clear H
     try go_wp2
     replace HO_4 := a0_ (Kd.S_drew HO_4.out)
     replace BK317 := a0_ (blk_drew BK317.out)
     replace HB := a0_ (below_drew1 HB.out)
     have p320 : 0 ≤ ((ji21) : Int) := dec_
     have q320 : (ji21) < (x4_1.length : Int) := dec_
     obtain ⟨ad320, A320_3, c320_3, e320, hx320_0, hx320_1, hx320_2, hx320_3, hl320_3, hi320_3⟩ := at_T83 (Kd.S_reads' HO_4.out).2.2 (ji21) p320 q320
     cases e320
     obtain ⟨ce320, hce320, hMe320, hcc320⟩ := Kd.S_get HO_4.out z83 (ji21) p320 (by first | exact q320 | exact dec_ | (have e_ := (Kd.S_reads' HO_4.out).1; omega))
     obtain ⟨ve320_3, rfl, ge320_3⟩ := k83_openM hMe320
     have hv320_3 := hcc320 3 _ rfl
     rw [add_field _ _ 3 (by omega)] at hv320_3
     replace hv320_3 := Option.some.inj (hv320_3.symm.trans hx320_3)
     rw [hv320_3] at ge320_3
     have HL320_3 := a0_ (show Kd.R Kd.string 9 _ _ _ _ ((rd_T83 x4_1 (ji21)).f3) from ge320_3)
     clear hv320_3 ge320_3
     have HX320_3 := a0_ hx320_3
     clear hcc320 hce320
     have HR320_3 := a0_ hi320_3
     have HC320_3 := a0_ hl320_3
     clear hi320_3 hl320_3
     replace p320 := eq_true p320
     replace q320 := eq_true q320
     refine stH_ 8 [] (cb_ BK317.out (e4_ hx320_0 hx320_1 hx320_2 hx320_3)) (fun hHeld => ?_); refine with_tabW spec_l3Sets.tab7 spec_l3Sets.bits7 (fun HT_ HW_ => ?_)
     generalize wc.drew = w27 at HO_4 BK317 HB HL320_3 HR320_3 HX320_3 hx320_0 hx320_1 hx320_2 hx320_3 hHeld ⊢
     refine p_ 0 39 ?_
     refine p_ 1 40 ?_
     refine p_ 2 41 ?_
     refine p_ 3 42 ?_
     refine p_ 5 44 ?_
     refine t_ 4 43 ?_
     refine t_ 6 45 ?_
     refine p_ 7 46 ?_
     refine done_ (done_of HT_.out (by kernel_rfl)) ?_
     try go_wp2
     replace HO_4 := a0_ (Kd.S_drew HO_4.out)
     replace HL320_3 := a0_ (Kd.R_drew HL320_3.out)
     replace BK317 := a0_ (blk_drew BK317.out)
     replace HR320_3 := a0_ (Kd.C_drew HR320_3.out)
     replace HB := a0_ (below_drew1 HB.out)
     have p321 : 0 ≤ ((ji21) : Int) := dec_
     have q321 : (ji21) < (x4_1.length : Int) := dec_
     obtain ⟨ad321, A321_3, c321_3, e321, hx321_0, hx321_1, hx321_2, hx321_3, hl321_3, hi321_3⟩ := at_T83 (Kd.S_reads' HO_4.out).2.2 (ji21) p321 q321
     obtain rfl : ad320 = ad321 := (by injection e321)
     obtain ⟨ce321, hce321, hMe321, hcc321⟩ := Kd.S_get HO_4.out z83 (ji21) p321 (by first | exact q321 | exact dec_ | (have e_ := (Kd.S_reads' HO_4.out).1; omega))
     obtain ⟨ve321_3, rfl, ge321_3⟩ := k83_openM hMe321
     have hv321_3 := hcc321 3 _ rfl
     rw [add_field _ _ 3 (by omega)] at hv321_3
     replace hv321_3 := Option.some.inj (hv321_3.symm.trans hx321_3)
     rw [hv321_3] at ge321_3
     have HL321_3 := a0_ (show Kd.R Kd.string 9 _ _ _ _ ((rd_T83 x4_1 (ji21)).f3) from ge321_3)
     clear hv321_3 ge321_3
     have HX321_3 := a0_ hx321_3
     clear hcc321 hce321
     have HR321_3 := a0_ hi321_3
     have HC321_3 := a0_ hl321_3
     clear hi321_3 hl321_3
     replace p321 := eq_true p321
     replace q321 := eq_true q321
     obtain ⟨go29, co29, eo29, gb29, gl29, cl29, HG29⟩ := Kd.S_form HO_4.out (by have h_ : ((ji21) : Int) < ((x4_1.length : Int) : Int) := dec_; have h2_ : 0 ≤ ((ji21) : Int) := (dec_); omega)
     (first | cases eo29 | (injection eo29 with ea_ en_ ec_; (first | subst ea_ | (injection ea_ with ea_; subst ea_)); subst ec_; clear en_))
     have GB29 := a0_ gb29
     have GG29 := a0_ HG29
     clear gb29 gl29 HG29
     (first | simp only [add_plain] at hx320_0 | skip)
     (first | simp only [add_plain] at hx320_1 | skip)
     (first | simp only [add_plain] at hx320_2 | skip)
     (first | simp only [add_plain] at hx320_3 | skip)
     (first | simp only [add_plain] at hx321_0 | skip)
     (first | simp only [add_plain] at hx321_1 | skip)
     (first | simp only [add_plain] at hx321_2 | skip)
     (first | simp only [add_plain] at hx321_3 | skip)
     obtain ⟨oki29, ce29, hcl29, hM29, hcc29, _, _, hH29⟩ := Kd.S_elem HO_4.out z83 ((ji21) : Int) (dec_) (by have h_ : ((ji21) : Int) < ((x4_1.length : Int) : Int) := dec_; first | exact h_ | (have e_ := (Kd.S_reads' HO_4.out).1; omega) | simpa using h_)
     obtain ⟨ve29_3, rfl, ge29_3⟩ := k83_openM hM29
     have hv29 := hcc29 3 _ rfl
     have hX29 := HX321_3.out
     (try simp only [add_plain] at hX29)
     (try simp only [Nat.add_zero] at hv29)
     replace hv29 := Option.some.inj (hv29.symm.trans hX29)
     subst hv29
     clear hX29 hcc29 hcl29
     have UU29 := a0_ (show Kd.R Kd.string 9 _ w.heap.size oki29 (.slice A321_3 ((rd_T83 x4_1 (ji21)).f3).length c321_3) ((rd_T83 x4_1 (ji21)).f3) from ge29_3)
     have HH29 := a0_ hH29
     have HN29 := a0_ (Kd.S_reads' HO_4.out).1
     clear hH29 ge29_3
     refine stH_ 14 [13] (cb_ BK317.out (e4_ hx321_0 hx321_1 hx321_2 hx321_3)) (fun hHeld => ?_); refine with_tabW spec_l3Sets.tab9 spec_l3Sets.bits9 (fun HT_ HW_ => ?_)
     generalize w27.drew = w28 at HO_4 HL320_3 BK317 HR320_3 HB GG29 HH29 HL321_3 HR321_3 HX321_3 UU29 hx320_0 hx320_1 hx320_2 hx320_3 hx321_0 hx321_1 hx321_2 hx321_3 hHeld ⊢
     refine p_ 0 47 ?_
     refine p_ 1 48 ?_
     refine p_ 2 49 ?_
     refine p_ 3 50 ?_
     refine p_ 4 51 ?_
     refine p_ 5 52 ?_
     refine p_ 7 54 ?_
     refine t_ 6 53 ?_
     refine t_ 8 55 ?_
     refine oneS_ 9 (some 56) (fun K hK => ?_)
     refine value_ (w1 := ?_) (v := ?_) (by rfl) rfl ?_ ?_
     rotate_left 2
     · go_simp
       constructor
       · rfl
       · rfl
     refine hK.out _ _ ⟨(blk_cell (blk_alloc BK317.out _) 0).trans rfl, (blk_cell (blk_alloc BK317.out _) 1).trans rfl, (blk_cell (blk_alloc BK317.out _) 2).trans rfl, (blk_cell (blk_alloc BK317.out _) 3).trans rfl, (World.cell?_alloc_lt _ _ _ (World.block_lt_of_cell? _ _ (hHeld.2.2.2.2.1))).trans (hHeld.2.2.2.2.1), (World.cell?_alloc_lt _ _ _ (World.block_lt_of_cell? _ _ (hHeld.2.2.2.2.2.1))).trans (hHeld.2.2.2.2.2.1), (World.cell?_alloc_lt _ _ _ (World.block_lt_of_cell? _ _ (hHeld.2.2.2.2.2.2.1))).trans (hHeld.2.2.2.2.2.2.1), (World.cell?_alloc_lt _ _ _ (World.block_lt_of_cell? _ _ (hHeld.2.2.2.2.2.2.2))).trans (hHeld.2.2.2.2.2.2.2)⟩ (fun hHeld => ?_)
     clear hK K
     refine normS_ ?_
     refine oneS_ 10 (some 57) (fun K hK => ?_)
     refine Kd.R_append_step Kd.string (w0 := w) w.heap.size (by rfl) (.tmp 53) (.tmp 56) 78 9 (.string ⟨#[]⟩) 16 rfl Tryz.underlying78 info9 rfl (by decide) (by omega) (.slice A321_3 ((rd_T83 x4_1 (ji21)).f3).length c321_3) ((rd_T83 x4_1 (ji21)).f3) ((rd_T45 l0 x10_1).f3) [.string ((rd_T45 l0 x10_1).f3)] (fun k_ => oki29 k_ ∨ ((fun _ => True)) k_ ∧ w28.heap.size ≤ k_) (fun _ => False) rfl rfl ?aP (fun _ hk => hk.elim) ?aF ?aO ?aB ?aS ?aL ?_
     (case aP => exact rfl)
     (case aB => exact bq1_)
     (case aF => exact (fun k_ hk => .inr ⟨trivial, hk⟩))
     (case aO => exact (kR_ (Kd.R_mono UU29.out (fun _ hk => .inl hk))))
     (case aS => exact (below_size bq1_))
     (case aL => have := LMc25.out; omega)
     intro v323 w30 ho hb hg hat
     (first | have HS4_ := cg_ hg (hHeld.2.2.2.2.1) (by first | exact (fun e_ => ((HL321_3.out.1 _ e_.symm).2) rfl) | (rw [add_block]; exact (fun e_ => ((HL321_3.out.1 _ e_.symm).2) rfl))) | have HS4_ := cg_ hg (cell_unalloc (hHeld.2.2.2.2.1) (by first | (rw [add_block]; exact Kd.S_lt HO_4.out _ rfl) | (show (Addr.add _ _).block < _; rw [add_block]; exact Kd.S_lt HO_4.out _ rfl) | exact Kd.S_lt HO_4.out _ rfl)) (by first | exact (fun e_ => ((HL321_3.out.1 _ e_.symm).2) rfl) | (rw [add_block]; exact (fun e_ => ((HL321_3.out.1 _ e_.symm).2) rfl))))
     (first | have HS5_ := cg_ hg (hHeld.2.2.2.2.2.1) (by first | exact (fun e_ => ((HL321_3.out.1 _ e_.symm).2) rfl) | (rw [add_block]; exact (fun e_ => ((HL321_3.out.1 _ e_.symm).2) rfl))) | have HS5_ := cg_ hg (cell_unalloc (hHeld.2.2.2.2.2.1) (by first | (rw [add_block]; exact Kd.S_lt HO_4.out _ rfl) | (show (Addr.add _ _).block < _; rw [add_block]; exact Kd.S_lt HO_4.out _ rfl) | exact Kd.S_lt HO_4.out _ rfl)) (by first | exact (fun e_ => ((HL321_3.out.1 _ e_.symm).2) rfl) | (rw [add_block]; exact (fun e_ => ((HL321_3.out.1 _ e_.symm).2) rfl))))
     (first | have HS6_ := cg_ hg (hHeld.2.2.2.2.2.2.1) (by first | exact (fun e_ => ((HL321_3.out.1 _ e_.symm).2) rfl) | (rw [add_block]; exact (fun e_ => ((HL321_3.out.1 _ e_.symm).2) rfl))) | have HS6_ := cg_ hg (cell_unalloc (hHeld.2.2.2.2.2.2.1) (by first | (rw [add_block]; exact Kd.S_lt HO_4.out _ rfl) | (show (Addr.add _ _).block < _; rw [add_block]; exact Kd.S_lt HO_4.out _ rfl) | exact Kd.S_lt HO_4.out _ rfl)) (by first | exact (fun e_ => ((HL321_3.out.1 _ e_.symm).2) rfl) | (rw [add_block]; exact (fun e_ => ((HL321_3.out.1 _ e_.symm).2) rfl))))
     (first | have HS7_ := cg_ hg (hHeld.2.2.2.2.2.2.2) (by first | exact (fun e_ => ((HL321_3.out.1 _ e_.symm).2) rfl) | (rw [add_block]; exact (fun e_ => ((HL321_3.out.1 _ e_.symm).2) rfl))) | have HS7_ := cg_ hg (cell_unalloc (hHeld.2.2.2.2.2.2.2) (by first | (rw [add_block]; exact Kd.S_lt HO_4.out _ rfl) | (show (Addr.add _ _).block < _; rw [add_block]; exact Kd.S_lt HO_4.out _ rfl) | exact Kd.S_lt HO_4.out _ rfl)) (by first | exact (fun e_ => ((HL321_3.out.1 _ e_.symm).2) rfl) | (rw [add_block]; exact (fun e_ => ((HL321_3.out.1 _ e_.symm).2) rfl))))
     rw [← Ny322.out] at ho
     have n0_ := a0_ (blk_grown (g := gb317) (o := .cells #[.string ((rd_T45 l0 x10_1).f0), .int .i64 ((rd_T45 l0 x10_1).f1), .int .i64 ((rd_T45 l0 x10_1).f2), .string ((rd_T45 l0 x10_1).f3)] 45 (0, 0)) (kB_ BK317.out) hg (Kd.R_ne HL321_3.out BK317.out (by decide)))
     have n1_ := a0_ (hb)
     have n2_ := a0_ (Kd.H_grown (Kd.H_widen (by repeat (first | exact HH29.out | refine Kd.H_alloc ?_ _ | refine Kd.H_drewN ?_ _ | refine Kd.H_drew ?_))) hg (fun k_ e_ => .inl (UU29.out.1 k_ e_)))
     have n3_ := a0_ (ho)
     clear BK317
     clear HB
     clear HH29
     clear HO_4
     clear UU29
     clear HL320_3
     clear HL321_3
     have BK317 := n0_
     have HB := n1_
     have HH29 := n2_
     have HO324 := n3_
     clear n0_ n1_ n2_ n3_
     clear ho hb hg hat
     have p26 := t0_ ((ji21))
     have q26 := tl_ (((ji21) : Int)) ((x4_1.length : Int))
     obtain ⟨Ao33, co33, eo33⟩ := Kd.R_slice HO324.out
     (first | subst eo33 | (injection eo33 with f1_ f2_ f3_; have f4_ := f1_.symm; have f5_ := f3_.symm; clear f1_ f2_ f3_; subst f4_; subst f5_))
     obtain ⟨_, _, hraw31, _, _, hcc31, _⟩ := Kd.H_raw HH29.out (dec_) (by have h_ : ((ji21) : Int) < ((x4_1.length : Int) : Int) := dec_; first | exact h_ | (have e_ := (HN29.out); omega) | simpa using h_)
     obtain ⟨_, hfr31⟩ := Kd.H_at HH29.out (dec_) (by have h_ : ((ji21) : Int) < ((x4_1.length : Int) : Int) := dec_; first | exact h_ | (have e_ := (HN29.out); omega) | simpa using h_)
     have hx31_0 := hcc31 3 _ rfl
     have hf31_0 := hfr31 3
     (try rw [show (k83).sz = 4 from rfl] at hx31_0)
     (try rw [show (k83).sz = 4 from rfl] at hf31_0)
     have HP31 := Kd.S_seg0 HH29.out (dec_) (by have h_ : ((ji21) : Int) < ((x4_1.length : Int) : Int) := dec_; first | exact h_ | (have e_ := (HN29.out); omega) | simpa using h_) (seg := [.slice Ao33 y322.length co33]) (j := 3) (show 4 ≤ 4 from by decide) (x' := (⟨(rd_T83 x4_1 (ji21)).f0, (rd_T83 x4_1 (ji21)).f1, (rd_T83 x4_1 (ji21)).f2, y322⟩ : S83)) (k83_mkM _ _ _ (⟨(rd_T83 x4_1 (ji21)).f0, (rd_T83 x4_1 (ji21)).f1, (rd_T83 x4_1 (ji21)).f2, y322⟩ : S83) HO324.out) (fun _ hk => hk)
     clear hcc31 hfr31
     have HNB317_go29 := a0_ (show gb317 ≠ go29 from by have h_ := Kd.R_ne hraw31 BK317.out (by decide); intro e_; exact h_ (by rw [e_]; rfl))
     have HS31 := HP31.1
     rw [← Ny325.out] at HS31
     have HQ31 := a0_ HS31
     obtain ⟨_, hgg31⟩ := Kd.R_typed hraw31 go29 rfl
     have GG31_ := a0_ hgg31
     clear HP31 HS31 hgg31
     refine hK.out _ _ (cb_ BK317.out (c1_ HS4_ (c1_ HS5_ (c1_ HS6_ (e1_ HS7_))))).out (fun hHeld => ?_)
     clear hK K
     refine normS_ ?_
     refine p_ 11 58 ?_
     refine p_ 12 59 ?_
     refine last_ (i := 13) (N := none) #[true, true, true, true, true, true, true, true, true, true, true, true, true, true] rfl rfl (one_of HT_.out (by kernel_rfl)) (by decide) (fun K hK => ?_)
     refine skip_ (w1 := ?_) (by rfl) rfl ?_ ?_
     rotate_left
     · go_simp
       rfl
     refine hK.out _ _ ?_
     clear hK K
     refine done_ (done_of HT_.out (by kernel_rfl)) ?_
     try go_wp2
     go_roundg kj4
     case measure => have := HK1.out; have := HJ4.out; omega
     case rel => exact ⟨(y325), (wrap64 (x10_1 + 1)), rs_, H', jm_ HK1 HJ4, ⟨kS_ HQ31.out⟩, ⟨bq2_⟩⟩
def cmp_Or_int.l0 : Nat → Int → List Int → Int → Int → Option (Int)
 | 0, _, _, _, _ => none
 | k + 1, x3, x6, x7, x8 => if x8 < x7 then (if 0 ≤ x8 then (if x8 < (x6.length : Int) then (if (rd x6 x8) = x3 then (cmp_Or_int.l0 k x3 x6 x7 (wrap64 (x8 + 1))) else (some (rd x6 x8))) else (none)) else (none)) else (some x3)
def cmp_Or_int.f (k : Nat) (l0 : List Int) : Option (Int) := cmp_Or_int.l0 k 0 l0 (l0.length : Int) 0
theorem cmp_Or_int.mono_l : ∀ k, (∀ y0 y1 y2 y3, LeO (cmp_Or_int.l0 k y0 y1 y2 y3) (cmp_Or_int.l0 (k + 1) y0 y1 y2 y3))
 | 0 => fun _ _ _ _ r h => by simp [cmp_Or_int.l0] at h
 | k + 1 => by
  have ih0 := cmp_Or_int.mono_l k
  · intro y0 y1 y2 y3
    unfold cmp_Or_int.l0
    repeat' first | (with_reducible first | exact ih0 _ _ _ _ | exact LeO.refl _ | exact LeO.none _ | refine LeO.ite ?_ ?_ | refine LeO.bind ?_ (fun _ => ?_)) | exact LeO.none _ | refine LeO.ite ?_ ?_ | refine LeO.bind ?_ (fun _ => ?_)
theorem cmp_Or_int.mono : ∀ a0 k, LeO (cmp_Or_int.f k a0) (cmp_Or_int.f (k + 1) a0) := by
 intro a0 k
 have ih0 := cmp_Or_int.mono_l k
 unfold cmp_Or_int.f
 repeat' first | (with_reducible first | exact ih0 _ _ _ _ | exact LeO.refl _ | exact LeO.none _ | refine LeO.ite ?_ ?_ | refine LeO.bind ?_ (fun _ => ?_)) | exact LeO.none _ | refine LeO.ite ?_ ?_ | refine LeO.bind ?_ (fun _ => ?_)
theorem cmp_Or_int.calls (k : Nat) (A0 : Option Addr) (c0 : Nat) (l0 : List Int) (r : Int) (w : World) (hr0 : Kd.C (Kd.int .i64) w A0 l0.length l0) (hc0 : l0.length ≤ c0) (h : cmp_Or_int.f k l0 = some r) :
 Calls Tryz.prog 131 #[.slice A0 l0.length c0] w fun e w' => e = .returned (.int .i64 r) ∧ Drawn0 w w' := by
 have HR0 := a0_ hr0
 have HC0 := a0_ hc0
 clear hr0 hc0
 have H := h
 clear h
 unfold cmp_Or_int.f at H
 have H' := a0_ H
 clear H
 go_enter Tryz.func131, Tryz.ntmps131
 go_wp2
 go_loopg [8] k (fun kq v8 w' => ∃ (x8_1 : Int), v8 = .int .i64 x8_1 ∧ Aside0 (cmp_Or_int.l0 kq 0 l0 (l0.length : Int) x8_1 = some r) ∧ Aside0 (kq ≤ k) ∧ Drawn0 w w')
 case atStart => exact ⟨(0), rs_, H', ⟨Nat.le_refl _⟩, dr_⟩
 case round =>
  clear H'
  obtain ⟨x8_1, rfl, HA, HK1, ⟨m1, rfl⟩⟩ := hrel
  cases gk with
  | zero => exact absurd HA.out (by simp [cmp_Or_int.l0])
  | succ k1 =>
   have H := HA.out
   clear HA
   simp only [cmp_Or_int.l0] at H
   by_cases c2 : x8_1 < (l0.length : Int)
   case neg =>
    rw [if_neg c2] at H
    have c2b0 := decide_eq_false c2
    clear c2
    obtain rfl := Option.some.inj H
    go_wp2
    go_ret
    exact ⟨rs_, dr_⟩
   rw [if_pos c2] at H
   have c2b0 := decide_eq_true c2
   clear c2
   by_cases c3 : 0 ≤ x8_1
   case neg =>
    rw [if_neg c3] at H
    exact absurd H (by simp)
   rw [if_pos c3] at H
   have c3b0 := decide_eq_true c3
   clear c3
   by_cases c4 : x8_1 < (l0.length : Int)
   case neg =>
    rw [if_neg c4] at H
    exact absurd H (by simp)
   rw [if_pos c4] at H
   have c4b0 := decide_eq_true c4
   clear c4
   by_cases c5 : (rd l0 x8_1) = 0
   case neg =>
    rw [if_neg c5] at H
    have c5b0 := beq_eq_false_iff_ne.mpr c5
    have c5b1 := bne_iff_ne.mpr c5
    obtain rfl := Option.some.inj H
    have p368 := t0_ (x8_1)
    have q368 := tl_ (x8_1) (l0.length)
    obtain ⟨ad368, e368, hx368_0⟩ := Kd.at_int HR0.out x8_1 (of_eq_true p368) (of_eq_true q368)
    cases e368
    go_wp2
    go_ret
    exact ⟨rs_, dr_⟩
   rw [if_pos c5] at H
   have c5b0 := beq_iff_eq.mpr c5
   have c5b1 := bne_eq_false_iff_eq.mpr c5
   clear c5
   have H' := a0_ H
   clear H
   have p368 := t0_ (x8_1)
   have q368 := tl_ (x8_1) (l0.length)
   obtain ⟨ad368, e368, hx368_0⟩ := Kd.at_int HR0.out x8_1 (of_eq_true p368) (of_eq_true q368)
   cases e368
   go_wp2
   go_roundg k1
   case measure => have := HK1.out; omega
   case rel => exact ⟨(wrap64 (x8_1 + 1)), rs_, H', jl_ HK1, dr_⟩
def impl_labelsOf.f (a0 : ByteArray) : Option (List ByteArray) := if a0.toList = ([] : List UInt8) then (some ([] : List ByteArray)) else ((strings_Split.f a0 (⟨#[46]⟩ : ByteArray)).bind fun t238 => (some t238))
theorem impl_labelsOf.calls (a0 : ByteArray) (r : List ByteArray) (w : World) (h : impl_labelsOf.f a0 = some r) :
 Calls Tryz.prog 144 #[.string a0] w fun e w' => ∃ v0_ : Value, e = .returned (v0_) ∧ Kd.R Kd.string 9 w' w.heap.size (fun _ => True) v0_ r ∧ Below w.heap.size w w' := by
 have HB := a0_ (Below.refl w.heap.size w)
 have H := h
 clear h
 unfold impl_labelsOf.f at H
 by_cases c2 : a0.toList = ([] : List UInt8)
 case pos =>
  rw [if_pos c2] at H
  have c2b0 := beq_iff_eq.mpr c2
  have c2b1 := bne_eq_false_iff_eq.mpr c2
  clear c2
  obtain rfl := Option.some.inj H
  go_enter Tryz.func144, Tryz.ntmps144
  go_wp2
  go_ret
  exact ⟨_, rr_, by first | exact Kd.R_nil _ _ _ _ _ | exact Kd.N_nil _ _ _ _ _ | exact Kd.V_nil _ _ _ _ _ | exact Kd.Q_nil _ _ _ _ _ | exact Kd.S_nil _ _ _ _ _, bq0_⟩
 rw [if_neg c2] at H
 have c2b0 := beq_eq_false_iff_ne.mpr c2
 have c2b1 := bne_iff_ne.mpr c2
 obtain ⟨t238, A3, H⟩ := ob_ H
 obtain rfl := Option.some.inj H
 go_enter Tryz.func144, Tryz.ntmps144
 go_wp2_with (first | ((with_reducible refine gt_ 87 rfl ?_); refine gs_ 6 Tryz.func87 #[.string a0, .string (⟨#[46]⟩ : ByteArray)] ?_; (with_reducible refine (strings_Split.calls a0 (⟨#[46]⟩ : ByteArray) t238 _ A3.out).mono ?_); rintro e w4 ⟨v239, rfl, ho0, hb⟩; refine ⟨_, rfl, ?_⟩; have HO240 := a0_ (Kd.R_lower ho0 (below_size bq0_)); replace HB := a0_ (below_step bq0_ hb); clear hb; (try clear ho0)))
 go_ret
 exact ⟨_, rr_, kR_ HO240.out, bq0_⟩
def slices_Reverse_string_string.l0 : Nat → List ByteArray → Int → Int → Option (List ByteArray)
 | 0, _, _, _ => none
 | k + 1, x0, x2, x3 => if x2 < x3 then (if 0 ≤ x3 then (if x3 < (x0.length : Int) then (if 0 ≤ x2 then (if x2 < (x0.length : Int) then (slices_Reverse_string_string.l0 k ((x0.set (x2 : Int).toNat (rdOf ByteArray.empty x0 x3)).set (x3 : Int).toNat (rdOf ByteArray.empty x0 x2)) (wrap64 (x2 + 1)) (wrap64 (x3 - 1))) else (none)) else (none)) else (none)) else (none)) else (some x0)
def slices_Reverse_string_string.f (k : Nat) (l0 : List ByteArray) : Option (List ByteArray) := slices_Reverse_string_string.l0 k l0 0 (wrap64 ((l0.length : Int) - 1))
def slices_Reverse_string_string.T3 : Bool × List (List Nat × List Nat) := (true, [([], []), ([], []), ([], []), ([], []), ([], []), ([], []), ([4, 5], [4, 5]), ([6], [6]), ([], []), ([], []), ([8, 9], [8, 9]), ([10], [10]), ([0, 1, 0, 1, 4, 5, 6, 7, 11], [0, 1]), ([12, 7, 0, 1, 4, 5, 6, 7, 11], [7, 12]), ([2, 3, 0, 1, 2, 3, 4, 5, 6, 7, 8, 9, 10, 11, 12, 13], [2, 3]), ([14, 11, 13, 0, 1, 2, 3, 4, 5, 6, 7, 8, 9, 10, 11, 12, 13], [11, 14])])
def slices_Reverse_string_string.B3 : List Nat := [0, 0, 0, 0, 0, 0, 48, 112, 0, 0, 768, 1792, 4083, 8179, 16383, 32767]
theorem slices_Reverse_string_string.tab3 : rtab .any (opsOf Tryz.f177 3) = slices_Reverse_string_string.T3 := by kernel_rfl
theorem slices_Reverse_string_string.bits3 : waitsOk slices_Reverse_string_string.T3.2 slices_Reverse_string_string.B3 = true := by kernel_rfl
theorem slices_Reverse_string_string.calls (k : Nat) (P0_ : Nat → Prop) (u9000_ : Value) (l0 : List ByteArray) (r : List ByteArray) (w0 w : World) (hB : Below w0.heap.size w0 w) (ho0 : Kd.R Kd.string 9 w w0.heap.size P0_ u9000_ l0) (h : slices_Reverse_string_string.f k l0 = some r) :
 Calls Tryz.prog 177 #[u9000_] w fun e w' => e = .returned (.tuple #[]) ∧ Kd.R Kd.string 9 w' w0.heap.size (fun k_ => (P0_ k_ ∨ w.heap.size ≤ k_)) u9000_ r ∧ Below w0.heap.size w0 w' ∧ Kept w w' (fun k_ => P0_ k_) := by
 have HO0 := a0_ (show Kd.R Kd.string 9 w w0.heap.size (fun k_ => (P0_ k_ ∨ w.heap.size ≤ k_)) u9000_ l0 from Kd.R_mono ho0 (fun k_ hk => (.inl hk)))
 have HK := a0_ (Kept.refl w (fun k_ => P0_ k_))
 have HW0 := a0_ hB.size
 have HB := a0_ hB
 clear hB
 have H := h
 clear h
 unfold slices_Reverse_string_string.f at H
 have H' := a0_ H
 clear H
 obtain ⟨Ao2, co2, eo2⟩ := Kd.R_slice HO0.out
 subst eo2
 go_enter Tryz.func177, Tryz.ntmps177
 go_wp2
 go_loopg [2, 3] k (fun kq v2 v3 w' => ∃ (x0_1 : List ByteArray) (x2_1 : Int) (x3_1 : Int), v2 = .int .i64 x2_1 ∧ v3 = .int .i64 x3_1 ∧ Aside0 (slices_Reverse_string_string.l0 kq x0_1 x2_1 x3_1 = some r) ∧ Aside0 (kq ≤ k) ∧ Aside0 (Kd.R Kd.string 9 w' w0.heap.size (fun k_ => (P0_ k_ ∨ w.heap.size ≤ k_)) (.slice Ao2 l0.length co2) x0_1) ∧ Aside0 (Kept w w' (fun k_ => P0_ k_)) ∧ Aside0 (Below w0.heap.size w0 w'))
 case atStart => exact ⟨(l0), (0), (wrap64 ((l0.length : Int) - 1)), rs_, rs_, H', ⟨Nat.le_refl _⟩, ⟨kR_ HO0.out⟩, ⟨kp_⟩, ⟨bq0_⟩⟩
 case round =>
  clear H'
  obtain ⟨x0_1, x2_1, x3_1, rfl, rfl, HA, HK1, HO_0, HK, HB⟩ := hrel
  have hl0_1 := (Kd.R_reads' HO_0.out).1
  rw [hl0_1] at HO_0
  (try simp only [hl0_1])
  cases gk with
  | zero => exact absurd HA.out (by simp [slices_Reverse_string_string.l0])
  | succ k1 =>
   have H := HA.out
   clear HA
   simp only [slices_Reverse_string_string.l0] at H
   by_cases c3 : x2_1 < x3_1
   case neg =>
    rw [if_neg c3] at H
    have c3b0 := decide_eq_false c3
    clear c3
    obtain rfl := Option.some.inj H
    go_wp2
    first | go_end0 | ((try simp only [Exit.inBlock, Exit.then]); refine bodyPost_ret (results_none rfl _ _ _) rfl ?_)
    exact ⟨rr_, (by first | exact (kR_ HO_0.out) | (simp only [hl0_1]; exact (kR_ HO_0.out))), bq0_, by repeat (first | (with_reducible first | exact HK.out | apply Kept.alloc | apply Kept.drewN | apply Kept.drew) | exact HK.out)⟩
   rw [if_pos c3] at H
   have c3b0 := decide_eq_true c3
   clear c3
   by_cases c4 : 0 ≤ x3_1
   case neg =>
    rw [if_neg c4] at H
    exact absurd H (by simp)
   rw [if_pos c4] at H
   have c4b0 := decide_eq_true c4
   clear c4
   by_cases c5 : x3_1 < (x0_1.length : Int)
   case neg =>
    rw [if_neg c5] at H
    exact absurd H (by simp)
   rw [if_pos c5] at H
   have c5b0 := decide_eq_true c5
   clear c5
   by_cases c6 : 0 ≤ x2_1
   case neg =>
    rw [if_neg c6] at H
    exact absurd H (by simp)
   rw [if_pos c6] at H
   have c6b0 := decide_eq_true c6
   clear c6
   by_cases c7 : x2_1 < (x0_1.length : Int)
   case neg =>
    rw [if_neg c7] at H
    exact absurd H (by simp)
   rw [if_pos c7] at H
   have c7b0 := decide_eq_true c7
   clear c7
   obtain ⟨y371, hy371⟩ : ∃ y_ : List ByteArray, y_ = (x0_1.set (x2_1 : Int).toNat (rdOf ByteArray.empty x0_1 x3_1)) := ⟨_, rfl⟩
   rw [← hy371] at H
   have Ny371 := a0_ hy371
   clear hy371
   obtain ⟨y372, hy372⟩ : ∃ y_ : List ByteArray, y_ = (y371.set (x3_1 : Int).toNat (rdOf ByteArray.empty x0_1 x2_1)) := ⟨_, rfl⟩
   rw [← hy372] at H
   have Ny372 := a0_ hy372
   clear hy372
   have H' := a0_ H
   clear H
   try go_wp2
   replace HO_0 := a0_ (Kd.R_drew HO_0.out)
   replace HK := a0_ (Kept.drew HK.out)
   replace HB := a0_ (below_drew1 HB.out)
   have p369 := t0_ (x3_1)
   have q369 := tl_ (x3_1) (x0_1.length)
   obtain ⟨ad369, e369, hx369_0⟩ := Kd.at_string (Kd.R_reads' HO_0.out).2.2 x3_1 (of_eq_true p369) (of_eq_true q369)
   cases e369
   have p370 := t0_ (x2_1)
   have q370 := tl_ (x2_1) (x0_1.length)
   obtain ⟨ad370, e370, hx370_0⟩ := Kd.at_string (Kd.R_reads' HO_0.out).2.2 x2_1 (of_eq_true p370) (of_eq_true q370)
   obtain rfl : ad369 = ad370 := (by injection e370)
   have p8 : 0 ≤ (x2_1 : Int) := dec_
   have q8 : (x2_1 : Int) < ((x0_1.length : Int) : Int) := dec_
   obtain ⟨go8, co8, eo8, gb8, gl8, cl8, HG8⟩ := Kd.R_form HO_0.out (by omega)
   (first | cases eo8 | (injection eo8 with ea_ en_ ec_; (first | subst ea_ | (injection ea_ with ea_; subst ea_)); subst ec_; clear en_))
   have GB8 := a0_ gb8
   have GG8 := a0_ HG8
   clear gb8 gl8 HG8
   have HMgo8 := a0_ (show (P0_ go8 ∨ w.heap.size ≤ go8) from (HO_0.out.1 _ rfl))
   (first | simp only [add_plain] at hx369_0 | skip)
   (first | simp only [add_plain] at hx370_0 | skip)
   obtain ⟨hx8_0, hf8_0⟩ := Kd.R_celln (⟨#[]⟩ : ByteArray) HO_0.out (x2_1 : Int) p8 q8
   replace p8 := eq_true p8
   replace q8 := eq_true q8
   have HP11 := Kd.R_putn HO_0.out (x2_1 : Int) (rdOf ByteArray.empty x0_1 x3_1)
   rw [← Ny371.out] at HP11
   have HQ11 := a0_ HP11
   clear HP11
   have p9 := t0_ (x3_1)
   have q9 := tl_ ((x3_1 : Int)) ((x0_1.length : Int))
   obtain ⟨hx9_0, hf9_0⟩ := Kd.R_celln (⟨#[]⟩ : ByteArray) HQ11.out (x3_1 : Int) (of_eq_true p9) (of_eq_true q9)
   have HP12 := Kd.R_putn HQ11.out (x3_1 : Int) (rdOf ByteArray.empty x0_1 x2_1)
   rw [← Ny372.out] at HP12
   have HQ12 := a0_ HP12
   clear HP12
   refine stH_ 16 [13, 15] (c1_ hx369_0 (e1_ hx370_0)) (fun hHeld => ?_); refine with_tabW slices_Reverse_string_string.tab3 slices_Reverse_string_string.bits3 (fun HT_ HW_ => ?_)
   generalize wr.drew = w10 at HO_0 HK HB GG8 HQ11 HQ12 hf8_0 hf9_0 hx369_0 hx370_0 hx8_0 hx9_0 hHeld ⊢
   refine p_ 0 14 ?_
   refine p_ 1 15 ?_
   refine p_ 2 16 ?_
   refine p_ 3 17 ?_
   refine p_ 4 18 ?_
   refine p_ 5 19 ?_
   refine p_ 6 20 ?_
   refine p_ 8 22 ?_
   refine p_ 9 23 ?_
   refine p_ 10 24 ?_
   refine t_ 7 21 ?_
   refine t_ 11 25 ?_
   refine p_ 12 26 ?_
   refine last_ (i := 13) (N := none) #[true, true, true, true, true, true, true, true, true, true, true, true, true, true, false, false] rfl rfl (one_of HT_.out (by kernel_rfl)) (by decide) (fun K hK => ?_)
   refine skip_ (w1 := ?_) (by rfl) rfl ?_ ?_
   rotate_left
   · go_simp
     rfl
   refine hK.out _ _ ?_
   clear hK K
   refine p_ 14 27 ?_
   refine last_ (i := 15) (N := none) #[true, true, true, true, true, true, true, true, true, true, true, true, true, true, true, true] rfl rfl (one_of HT_.out (by kernel_rfl)) (by decide) (fun K hK => ?_)
   refine skip_ (w1 := ?_) (by rfl) rfl ?_ ?_
   rotate_left
   · go_simp
     rfl
   refine hK.out _ _ ?_
   clear hK K
   refine done_ (done_of HT_.out (by kernel_rfl)) ?_
   try go_wp2
   (try simp only [← hl0_1])
   go_roundg k1
   case measure => have := HK1.out; omega
   case rel => exact ⟨(y372), (wrap64 (x2_1 + 1)), (wrap64 (x3_1 - 1)), rs_, rs_, H', jl_ HK1, ⟨by (try simp only [hl0_1]); (with_reducible repeat (first | apply Kd.R_alloc | apply Kd.R_drewN | apply Kd.R_drew)); exact HQ12.out⟩, ⟨by repeat (first | (with_reducible first | exact HK.out | apply Kept.alloc | apply Kept.drewN | apply Kept.drew | refine Kept.setCell ?_ HMgo8.out _ | refine Kept.setCell ?_ HMgo8.out _) | exact HK.out)⟩, ⟨bq2_⟩⟩
end Go.Proofs.YtiegkjimpclmaaaGreatDoor.P
namespace Go.Proofs.YtiegkjimpclmaaaGreatDoor.P
attribute [local go_sem] max2_int min2_int max_two min_two max_three min_three max_four min_four
attribute [local go_sem] gtr_less
def cmp_Compare_string.f (a0 : ByteArray) (a1 : ByteArray) : Option (Int) := (cmp_isNaN_string.f a0).bind fun t373 => ((cmp_isNaN_string.f a1).bind fun t374 => (if t373 = true then (if t374 = true then (some 0) else (some (-1))) else (if t374 = true then (some 1) else (if (Op.bytesLess a0.toList a1.toList) = true then (some (-1)) else (if (Op.bytesLess a1.toList a0.toList) = true then (some 1) else (some 0))))))
theorem cmp_Compare_string.calls (a0 : ByteArray) (a1 : ByteArray) (r : Int) (w : World) (h : cmp_Compare_string.f a0 a1 = some r) :
 Calls Tryz.prog 208 #[.string a0, .string a1] w fun e w' => e = .returned (.int .i64 r) ∧ Drawn0 w w' := by
 have H := h
 clear h
 unfold cmp_Compare_string.f at H
 obtain ⟨t373, A3, H⟩ := ob_ H
 obtain ⟨t374, A4, H⟩ := ob_ H
 by_cases c5 : t373 = true
 case pos =>
  subst c5
  rw [if_pos rfl] at H
  by_cases c6 : t374 = true
  case pos =>
   subst c6
   rw [if_pos rfl] at H
   obtain rfl := Option.some.inj H
   go_enter Tryz.func208, Tryz.ntmps208
   go_wp2_with (first | ((with_reducible refine gt_ 248 rfl ?_); refine gs_ 8 Tryz.func248 #[.string a0] ?_; (with_reducible refine (cmp_isNaN_string.calls a0 true _ A3.out).mono ?_); rintro e w' ⟨rfl, ⟨nd, rfl⟩⟩; refine ⟨_, rfl, ?_⟩) | ((with_reducible refine gt_ 248 rfl ?_); refine gs_ 10 Tryz.func248 #[.string a1] ?_; (with_reducible refine (cmp_isNaN_string.calls a1 true _ A4.out).mono ?_); rintro e w' ⟨rfl, ⟨nd, rfl⟩⟩; refine ⟨_, rfl, ?_⟩))
   go_ret
   exact ⟨rs_, dr_⟩
  replace c6 := Bool.eq_false_iff.mpr c6
  subst c6
  rw [if_neg ff_] at H
  obtain rfl := Option.some.inj H
  go_enter Tryz.func208, Tryz.ntmps208
  go_wp2_with (first | ((with_reducible refine gt_ 248 rfl ?_); refine gs_ 8 Tryz.func248 #[.string a0] ?_; (with_reducible refine (cmp_isNaN_string.calls a0 true _ A3.out).mono ?_); rintro e w' ⟨rfl, ⟨nd, rfl⟩⟩; refine ⟨_, rfl, ?_⟩) | ((with_reducible refine gt_ 248 rfl ?_); refine gs_ 10 Tryz.func248 #[.string a1] ?_; (with_reducible refine (cmp_isNaN_string.calls a1 false _ A4.out).mono ?_); rintro e w' ⟨rfl, ⟨nd, rfl⟩⟩; refine ⟨_, rfl, ?_⟩))
  go_ret
  exact ⟨rs_, dr_⟩
 replace c5 := Bool.eq_false_iff.mpr c5
 subst c5
 rw [if_neg ff_] at H
 by_cases c7 : t374 = true
 case pos =>
  subst c7
  rw [if_pos rfl] at H
  obtain rfl := Option.some.inj H
  go_enter Tryz.func208, Tryz.ntmps208
  go_wp2_with (first | ((with_reducible refine gt_ 248 rfl ?_); refine gs_ 8 Tryz.func248 #[.string a0] ?_; (with_reducible refine (cmp_isNaN_string.calls a0 false _ A3.out).mono ?_); rintro e w' ⟨rfl, ⟨nd, rfl⟩⟩; refine ⟨_, rfl, ?_⟩) | ((with_reducible refine gt_ 248 rfl ?_); refine gs_ 10 Tryz.func248 #[.string a1] ?_; (with_reducible refine (cmp_isNaN_string.calls a1 true _ A4.out).mono ?_); rintro e w' ⟨rfl, ⟨nd, rfl⟩⟩; refine ⟨_, rfl, ?_⟩))
  go_ret
  exact ⟨rs_, dr_⟩
 replace c7 := Bool.eq_false_iff.mpr c7
 subst c7
 rw [if_neg ff_] at H
 by_cases c8 : (Op.bytesLess a0.toList a1.toList) = true
 case pos =>
  rw [if_pos c8] at H
  have c8b0 : (Op.bytesLess a0.toList a1.toList) = true := c8
  clear c8
  obtain rfl := Option.some.inj H
  go_enter Tryz.func208, Tryz.ntmps208
  go_wp2_with (first | ((with_reducible refine gt_ 248 rfl ?_); refine gs_ 8 Tryz.func248 #[.string a0] ?_; (with_reducible refine (cmp_isNaN_string.calls a0 false _ A3.out).mono ?_); rintro e w' ⟨rfl, ⟨nd, rfl⟩⟩; refine ⟨_, rfl, ?_⟩) | ((with_reducible refine gt_ 248 rfl ?_); refine gs_ 10 Tryz.func248 #[.string a1] ?_; (with_reducible refine (cmp_isNaN_string.calls a1 false _ A4.out).mono ?_); rintro e w' ⟨rfl, ⟨nd, rfl⟩⟩; refine ⟨_, rfl, ?_⟩))
  go_ret
  exact ⟨rs_, dr_⟩
 rw [if_neg c8] at H
 have c8b0 : (Op.bytesLess a0.toList a1.toList) = false := by simpa using c8
 clear c8
 by_cases c9 : (Op.bytesLess a1.toList a0.toList) = true
 case neg =>
  rw [if_neg c9] at H
  have c9b0 : (Op.bytesLess a1.toList a0.toList) = false := by simpa using c9
  clear c9
  obtain rfl := Option.some.inj H
  go_enter Tryz.func208, Tryz.ntmps208
  go_wp2_with (first | ((with_reducible refine gt_ 248 rfl ?_); refine gs_ 8 Tryz.func248 #[.string a0] ?_; (with_reducible refine (cmp_isNaN_string.calls a0 false _ A3.out).mono ?_); rintro e w' ⟨rfl, ⟨nd, rfl⟩⟩; refine ⟨_, rfl, ?_⟩) | ((with_reducible refine gt_ 248 rfl ?_); refine gs_ 10 Tryz.func248 #[.string a1] ?_; (with_reducible refine (cmp_isNaN_string.calls a1 false _ A4.out).mono ?_); rintro e w' ⟨rfl, ⟨nd, rfl⟩⟩; refine ⟨_, rfl, ?_⟩))
  go_ret
  exact ⟨rs_, dr_⟩
 rw [if_pos c9] at H
 have c9b0 : (Op.bytesLess a1.toList a0.toList) = true := c9
 clear c9
 obtain rfl := Option.some.inj H
 go_enter Tryz.func208, Tryz.ntmps208
 go_wp2_with (first | ((with_reducible refine gt_ 248 rfl ?_); refine gs_ 8 Tryz.func248 #[.string a0] ?_; (with_reducible refine (cmp_isNaN_string.calls a0 false _ A3.out).mono ?_); rintro e w' ⟨rfl, ⟨nd, rfl⟩⟩; refine ⟨_, rfl, ?_⟩) | ((with_reducible refine gt_ 248 rfl ?_); refine gs_ 10 Tryz.func248 #[.string a1] ?_; (with_reducible refine (cmp_isNaN_string.calls a1 false _ A4.out).mono ?_); rintro e w' ⟨rfl, ⟨nd, rfl⟩⟩; refine ⟨_, rfl, ?_⟩))
 go_ret
 exact ⟨rs_, dr_⟩
end Go.Proofs.YtiegkjimpclmaaaGreatDoor.P
namespace Go.Proofs.YtiegkjimpclmaaaGreatDoor.P
attribute [local go_sem] max2_int min2_int max_two min_two max_three min_three max_four min_four
def cmp_Compare_int.f (a0 : Int) (a1 : Int) : Option (Int) := (cmp_isNaN_int.f a0).bind fun t387 => ((cmp_isNaN_int.f a1).bind fun t388 => (if t387 = true then (if t388 = true then (some 0) else (some (-1))) else (if t388 = true then (some 1) else (if a0 < a1 then (some (-1)) else (if a0 > a1 then (some 1) else (some 0))))))
theorem cmp_Compare_int.calls (a0 : Int) (a1 : Int) (r : Int) (w : World) (h : cmp_Compare_int.f a0 a1 = some r) :
 Calls Tryz.prog 133 #[.int .i64 a0, .int .i64 a1] w fun e w' => e = .returned (.int .i64 r) ∧ Drawn0 w w' := by
 have H := h
 clear h
 unfold cmp_Compare_int.f at H
 obtain ⟨t387, A3, H⟩ := ob_ H
 obtain ⟨t388, A4, H⟩ := ob_ H
 by_cases c5 : t387 = true
 case pos =>
  subst c5
  rw [if_pos rfl] at H
  by_cases c6 : t388 = true
  case pos =>
   subst c6
   rw [if_pos rfl] at H
   obtain rfl := Option.some.inj H
   go_enter Tryz.func133, Tryz.ntmps133
   go_wp2_with (first | ((with_reducible refine gt_ 179 rfl ?_); refine gs_ 8 Tryz.func179 #[.int .i64 a0] ?_; (with_reducible refine (cmp_isNaN_int.calls a0 true _ A3.out).mono ?_); rintro e w' ⟨rfl, ⟨nd, rfl⟩⟩; refine ⟨_, rfl, ?_⟩) | ((with_reducible refine gt_ 179 rfl ?_); refine gs_ 10 Tryz.func179 #[.int .i64 a1] ?_; (with_reducible refine (cmp_isNaN_int.calls a1 true _ A4.out).mono ?_); rintro e w' ⟨rfl, ⟨nd, rfl⟩⟩; refine ⟨_, rfl, ?_⟩))
   go_ret
   exact ⟨rs_, dr_⟩
  replace c6 := Bool.eq_false_iff.mpr c6
  subst c6
  rw [if_neg ff_] at H
  obtain rfl := Option.some.inj H
  go_enter Tryz.func133, Tryz.ntmps133
  go_wp2_with (first | ((with_reducible refine gt_ 179 rfl ?_); refine gs_ 8 Tryz.func179 #[.int .i64 a0] ?_; (with_reducible refine (cmp_isNaN_int.calls a0 true _ A3.out).mono ?_); rintro e w' ⟨rfl, ⟨nd, rfl⟩⟩; refine ⟨_, rfl, ?_⟩) | ((with_reducible refine gt_ 179 rfl ?_); refine gs_ 10 Tryz.func179 #[.int .i64 a1] ?_; (with_reducible refine (cmp_isNaN_int.calls a1 false _ A4.out).mono ?_); rintro e w' ⟨rfl, ⟨nd, rfl⟩⟩; refine ⟨_, rfl, ?_⟩))
  go_ret
  exact ⟨rs_, dr_⟩
 replace c5 := Bool.eq_false_iff.mpr c5
 subst c5
 rw [if_neg ff_] at H
 by_cases c7 : t388 = true
 case pos =>
  subst c7
  rw [if_pos rfl] at H
  obtain rfl := Option.some.inj H
  go_enter Tryz.func133, Tryz.ntmps133
  go_wp2_with (first | ((with_reducible refine gt_ 179 rfl ?_); refine gs_ 8 Tryz.func179 #[.int .i64 a0] ?_; (with_reducible refine (cmp_isNaN_int.calls a0 false _ A3.out).mono ?_); rintro e w' ⟨rfl, ⟨nd, rfl⟩⟩; refine ⟨_, rfl, ?_⟩) | ((with_reducible refine gt_ 179 rfl ?_); refine gs_ 10 Tryz.func179 #[.int .i64 a1] ?_; (with_reducible refine (cmp_isNaN_int.calls a1 true _ A4.out).mono ?_); rintro e w' ⟨rfl, ⟨nd, rfl⟩⟩; refine ⟨_, rfl, ?_⟩))
  go_ret
  exact ⟨rs_, dr_⟩
 replace c7 := Bool.eq_false_iff.mpr c7
 subst c7
 rw [if_neg ff_] at H
 by_cases c8 : a0 < a1
 case pos =>
  rw [if_pos c8] at H
  have c8b0 := decide_eq_true c8
  clear c8
  obtain rfl := Option.some.inj H
  go_enter Tryz.func133, Tryz.ntmps133
  go_wp2_with (first | ((with_reducible refine gt_ 179 rfl ?_); refine gs_ 8 Tryz.func179 #[.int .i64 a0] ?_; (with_reducible refine (cmp_isNaN_int.calls a0 false _ A3.out).mono ?_); rintro e w' ⟨rfl, ⟨nd, rfl⟩⟩; refine ⟨_, rfl, ?_⟩) | ((with_reducible refine gt_ 179 rfl ?_); refine gs_ 10 Tryz.func179 #[.int .i64 a1] ?_; (with_reducible refine (cmp_isNaN_int.calls a1 false _ A4.out).mono ?_); rintro e w' ⟨rfl, ⟨nd, rfl⟩⟩; refine ⟨_, rfl, ?_⟩))
  go_ret
  exact ⟨rs_, dr_⟩
 rw [if_neg c8] at H
 have c8b0 := decide_eq_false c8
 clear c8
 by_cases c9 : a0 > a1
 case neg =>
  rw [if_neg c9] at H
  have c9b0 := decide_eq_false c9
  clear c9
  obtain rfl := Option.some.inj H
  go_enter Tryz.func133, Tryz.ntmps133
  go_wp2_with (first | ((with_reducible refine gt_ 179 rfl ?_); refine gs_ 8 Tryz.func179 #[.int .i64 a0] ?_; (with_reducible refine (cmp_isNaN_int.calls a0 false _ A3.out).mono ?_); rintro e w' ⟨rfl, ⟨nd, rfl⟩⟩; refine ⟨_, rfl, ?_⟩) | ((with_reducible refine gt_ 179 rfl ?_); refine gs_ 10 Tryz.func179 #[.int .i64 a1] ?_; (with_reducible refine (cmp_isNaN_int.calls a1 false _ A4.out).mono ?_); rintro e w' ⟨rfl, ⟨nd, rfl⟩⟩; refine ⟨_, rfl, ?_⟩))
  go_ret
  exact ⟨rs_, dr_⟩
 rw [if_pos c9] at H
 have c9b0 := decide_eq_true c9
 clear c9
 obtain rfl := Option.some.inj H
 go_enter Tryz.func133, Tryz.ntmps133
 go_wp2_with (first | ((with_reducible refine gt_ 179 rfl ?_); refine gs_ 8 Tryz.func179 #[.int .i64 a0] ?_; (with_reducible refine (cmp_isNaN_int.calls a0 false _ A3.out).mono ?_); rintro e w' ⟨rfl, ⟨nd, rfl⟩⟩; refine ⟨_, rfl, ?_⟩) | ((with_reducible refine gt_ 179 rfl ?_); refine gs_ 10 Tryz.func179 #[.int .i64 a1] ?_; (with_reducible refine (cmp_isNaN_int.calls a1 false _ A4.out).mono ?_); rintro e w' ⟨rfl, ⟨nd, rfl⟩⟩; refine ⟨_, rfl, ?_⟩))
 go_ret
 exact ⟨rs_, dr_⟩
end Go.Proofs.YtiegkjimpclmaaaGreatDoor.P
