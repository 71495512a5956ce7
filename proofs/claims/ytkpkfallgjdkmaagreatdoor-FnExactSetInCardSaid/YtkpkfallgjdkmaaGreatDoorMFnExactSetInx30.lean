/- FnExactSetIn: part 31 of 31 of my texts for this claim, joined; the theorem stands in the last. Conditions: none beyond the statement's. -/
import Derived.Test.YtkpkfallgjdkmaaGreatDoorMFnExactSetInx28
import Derived.Test.YtkpkfallgjdkmaaGreatDoorMFnExactSetInx25
import Derived.Test.YtkpkfallgjdkmaaGreatDoorMFnExactSetInx29
import Derived.Test.YtkpkfallgjdkmaaGreatDoorCards
import Derived.Test.YtkpkfallgjdkmaaGreatDoorTie
import Derived.Deep.DeepHandedRow
import Derived.Stop.LaidErr
import Derived.Lib.LaidTab
import Derived.Lib.ItoaNum
import Derived.Test.YtkpkfallgjdkmaaGreatDoorMFnExactSetInx3
namespace Go.Proofs.YtkpkfallgjdkmaaGreatDoor.Pure
open Go.RowKit Go.Proofs.YtkpkfallgjdkmaaGreatDoor.P Go.Proofs.YtkpkfallgjdkmaaGreatDoorW.PrintWords Go.Proofs.YtkpkfallgjdkmaaGreatDoorW.PrintLast Go.Proofs.YtkpkfallgjdkmaaGreatDoorW.PrintMore
set_option linter.unusedVariables false
set_option linter.unusedSimpArgs false
theorem set_loop (name : ByteArray) (kind : Int) (hk : kind ≠ 0) (L : List ZRec) (hL : L.length ≤ 1048576) : ∀ (m i : Nat) (out : List ZRec), i + m = L.length → out.length ≤ i →
 Ev (fun k => spec_l6Set.l0 k name kind out L (L.length : Int) (i : Int)) (out ++ atL (L.drop i) name kind)
 | 0, i, out, h, ho => by
  refine Ev.step (f := fun _ => some out) (fun k => ?_) ?_
  · show spec_l6Set.l0 (k + 1) name kind out L (L.length : Int) (i : Int) = _
    rw [spec_l6Set.l0, if_neg (by omega)]
  · rw [List.drop_of_length_le (by omega), show atL [] name kind = [] from rfl, List.append_nil]; exact Ev.now _
 | m + 1, i, out, h, ho => by
  have hi : i < L.length := by omega
  have es : ∀ k, spec_l6Set.l0 (k + 1) name kind out L (L.length : Int) (i : Int) = (if L[i].f0 = name ∧ L[i].f1 = kind then (spec_l6Set.l0 k name kind (out ++ [L[i]]) L (L.length : Int) ((i + 1 : Nat) : Int)) else (spec_l6Set.l0 k name kind out L (L.length : Int) ((i + 1 : Nat) : Int))) := fun k => by
   rw [spec_l6Set.l0, if_pos (by omega), if_pos (by omega), if_pos (by omega), rdI L i hi, w64n (by omega)]
   by_cases c0 : L[i].f0 = name
   · rw [if_pos ((tl_eq _ _).2 c0)]
     by_cases c2 : L[i].f1 = kind
     · rw [if_pos c2, if_pos (by omega), if_pos ⟨c0, c2⟩]
     · rw [if_neg c2, if_neg (fun e => c2 e.2)]
   · rw [if_neg (fun e => c0 ((tl_eq _ _).1 e)), if_neg (fun e => c0 e.1)]
  rw [List.drop_eq_getElem_cons hi]
  refine Ev.step es ?_
  unfold atL
  rw [List.filter_cons]
  by_cases c : L[i].f0 = name ∧ L[i].f1 = kind
  · rw [if_pos (by simp [c.1, c.2])]
    have ih := set_loop name kind hk L hL m (i + 1) (out ++ [L[i]]) (by omega) (by rw [List.length_append, List.length_singleton]; omega)
    unfold atL at ih
    rw [List.append_assoc] at ih
    exact Ev.congr (fun k => if_pos c) ih
  · rw [if_neg (by simp only [Bool.and_eq_true, Bool.or_eq_true, decide_eq_true_eq]; exact fun e => c ⟨e.1, e.2.resolve_left hk⟩)]
    have ih := set_loop name kind hk L hL m (i + 1) out (by omega) (by omega)
    unfold atL at ih
    exact Ev.congr (fun k => if_neg c) ih
theorem setIn_both (a : ByteArray) (c : Int) (L : List ZRec) (nm : ByteArray) (kind : Int) (ha : a.size ≤ 1048576) (hn : nm.size ≤ 1048576) (hL : L.length ≤ 1048576) (hs : ∀ r ∈ L, Small r.f0 ∧ Small r.f3) : ∃ (R : List ZRec) (ok : Bool), R.length ≤ 1048576 ∧ Ev (fun k => spec_SetIn.f k a c L nm kind) (R, ok) ∧ Ev (fun k => impl_SetIn.f k a c L nm kind) (R, ok) := by
 obtain ⟨r1, r2⟩ := zone_both a c L ha hL hs
 have g1 := specGood_ev nm (by omega)
 have t1 : Ev (fun k => spec_l3Type.f k kind) (([1, 2, 5, 6, 15, 16] : List Int).contains kind) := Ev.congr (fun k => rfl) (Ev.bind (has_ev _ _ (by decide)) (Ev.now _))
 have t2 : Ev (fun k => impl_isType.f k kind) (([1, 2, 5, 6, 15, 16] : List Int).contains kind) := Ev.congr (fun k => rfl) (Ev.bind (contains_ev _ _ (by decide)) (Ev.now _))
 have e1 : ∀ k, impl_SetIn.f k a c L nm kind = (impl_GoodZone.f k a c L).bind fun t868 => (if t868 = true then (if goodL nm.data.toList = true then ((impl_isType.f k kind).bind fun t870 => (if t870 = true then ((impl_at.f k L nm kind).bind fun t871 => (some (t871, true))) else (some (([] : List ZRec), false)))) else (some (([] : List ZRec), false))) else (some (([] : List ZRec), false))) := fun k => rfl
 cases h : zoneB a c L with
 | false =>
  rw [h] at r1 r2
  exact ⟨[], false, by decide, Ev.congr (fun k => rfl) (Ev.bind r1 (Ev.now _)), Ev.congr e1 (Ev.bind r2 (Ev.now _))⟩
 | true =>
  rw [h] at r1 r2
  cases hg : goodL nm.data.toList with
  | false =>
   rw [hg] at g1
   refine ⟨[], false, by decide, Ev.congr (fun k => rfl) (Ev.bind r1 ?_), Ev.congr e1 (Ev.bind r2 ?_)⟩
   · simp only [if_true]; exact Ev.bind g1 (Ev.now _)
   · simp only [if_true, hg, Bool.false_eq_true, if_false]; exact Ev.now _
  | true =>
   rw [hg] at g1
   cases ht : ([1, 2, 5, 6, 15, 16] : List Int).contains kind with
   | false =>
    rw [ht] at t1 t2
    refine ⟨[], false, by decide, Ev.congr (fun k => rfl) (Ev.bind r1 ?_), Ev.congr e1 (Ev.bind r2 ?_)⟩
    · simp only [if_true]; exact Ev.bind g1 (by simp only [if_true]; exact Ev.bind t1 (Ev.now _))
    · simp only [if_true, hg]; exact Ev.bind t2 (Ev.now _)
   | true =>
    rw [ht] at t1 t2
    have hk : kind ≠ 0 := by rintro rfl; cases ht
    have s1 := set_loop nm kind hk L hL L.length 0 [] (by omega) (by simp)
    rw [List.drop_zero, List.nil_append] at s1
    refine ⟨atL L nm kind, true, Nat.le_trans (List.length_filter_le _ _) hL, Ev.congr (fun k => rfl) (Ev.bind r1 ?_), Ev.congr e1 (Ev.bind r2 ?_)⟩
    · simp only [if_true]; exact Ev.bind g1 (by simp only [if_true]; exact Ev.bind t1 (by simp only [if_true]; exact Ev.bind s1 (Ev.now _)))
    · simp only [if_true, hg]; exact Ev.bind t2 (by simp only [if_true]; exact Ev.bind (at_ev nm kind L hL) (Ev.now _))
theorem FnExactSetIn : ∀ (a : ByteArray) (c : Int) (l : List LRec) (nm : ByteArray) (kind : Int), a.size ≤ maxLen → l.length ≤ maxLen → (∀ y ∈ l, y.f0.size ≤ maxLen ∧ y.f3.size ≤ maxLen) → nm.size ≤ maxLen → ∃ k, laws_FnExactSetIn.f k a c l nm kind = some true := by
 intro a c l nm kind ha hm hw hnm
 suffices h : Ev (fun k => laws_FnExactSetIn.f k a c l nm kind) true from h.rounds
 unfold laws_FnExactSetIn.f
 by_cases h : (nm.size : Int) > 1048576
 · simp only [if_pos h]; exact Ev.now _
 · simp only [if_neg h]
   obtain ⟨t, e, q⟩ := szZ_ev a c l ha hm hw
   refine Ev.bind e ?_
   by_cases ht : t < 0
   · simp only [if_pos ht]; exact Ev.now _
   · obtain ⟨q1, q2, q3⟩ := q (by omega)
     have hl : (l.map conv).length ≤ 1048576 := by rw [List.length_map]; exact q2
     obtain ⟨R, ok, hR, r1, r2⟩ := setIn_both a c (l.map conv) nm kind q1 (by omega) hl (small_conv q3)
     have eT := toZ_ev a c l q2
     have eE := eqZ_ev a c (l.map conv) hl
     have eR := eqRS_ev R hR
     have eM : Ev (fun k => laws_markZone.f k a c (l.map conv) 1) (((1 + 4 * (l.map conv).length : Nat) : Int), marksR 1 (l.map conv).length) := Ev.congr (fun k => rfl) (Ev.bind (markR_ev 1 (by omega) (l.map conv) hl) (Ev.now _))
     have mR : Ev (fun k => laws_markRecordS.f k R 1) (((1 + 4 * R.length : Nat) : Int), marksR 1 R.length) := markR_ev 1 (by omega) R hR
     have hR2 : Ev (fun k => laws_heldRecordS.f k (marksR 1 R.length) 1) ((1 + 4 * R.length : Nat) : Int) := heldR_ev 1 R.length (by omega) hR
     simp only [if_neg ht]
     refine Ev.bind eT (Ev.bind r1 (Ev.bind eT (Ev.bind r2 (Ev.bind eR ?_))))
     simp only [bne_self_eq_false, if_true]
     have j2 : Ev (fun k => laws_FnExactSetIn.j2 k (marksR 1 R.length) ((1 + 4 * R.length : Nat) : Int) false) true := by
      refine Ev.step (fun k => by rw [laws_FnExactSetIn.j2, if_neg (by decide)]) (Ev.bind hR2 ?_)
      simp only [if_neg (show ¬ ((1 + 4 * R.length : Nat) : Int) < 0 by omega), if_true]
      exact Ev.now _
     have j1 : Ev (fun k => laws_FnExactSetIn.j1 k nm kind R ok R false a c l) true := by
      refine Ev.step (fun k => by rw [laws_FnExactSetIn.j1, if_neg (by decide)]) (Ev.bind mR (Ev.bind hR2 ?_))
      simp only [if_neg (show ¬ ((1 + 4 * R.length : Nat) : Int) < 0 by omega), if_true]
      refine Ev.bind eT (Ev.bind r2 (Ev.bind eR ?_))
      simp only [bne_self_eq_false, if_true]
      exact j2
     refine Ev.step (fun k => by rw [laws_FnExactSetIn.j0, if_neg (by decide)]) (Ev.bind eT (Ev.bind eE ?_))
     simp only [if_true]
     refine Ev.bind eM ?_
     simp only [if_neg (show ¬ ((1 + 4 * (l.map conv).length : Nat) : Int) < 0 by omega)]
     refine Ev.bind eR ?_
     simp only [bne_self_eq_false, if_true]
     exact j1
end Go.Proofs.YtkpkfallgjdkmaaGreatDoor.Pure
namespace Go.Proofs.YtkpkfallgjdkmaaGreatDoor.fnExactSetIn
open Go.ChangeShapes Go.WideShapes Go.ChangeAt Go.RowKit Go.Joins Go.Proofs.YtkpkfallgjdkmaaGreatDoor.P Go.Proofs.YtkpkfallgjdkmaaGreatDoorW.PrintWords
open Go.ChangeMaps (open_string shut_string)
set_option linter.unusedVariables false
theorem own : ownKnob Tryz.prog.godebug = none := by kernel_rfl
theorem laidOut : laidOutB Tryz.prog = true := by kernel_rfl
instance : Inhabited (P.S71) := ⟨P.z71⟩
theorem opens_rec : Opens Tryz.prog 71 P.k71 (fun x => x.f0.size ≤ maxLen ∧ x.f3.size ≤ maxLen) :=
  Opens.imp (opens_iso (f := fun x : P.S71 => (x.f0, x.f1, x.f2, x.f3)) (fun x => (⟨x.1, x.2.1, x.2.2.1, x.2.2.2⟩ : P.S71)) (fun _ => rfl) (opens_struct4 Tryz.underlying71 (by kernel_rfl) (by kernel_rfl) (opens_text Tryz.underlying9) (opens_int Tryz.underlying3) (opens_int Tryz.underlying3) (opens_text Tryz.underlying9))) fun x h => ⟨h.1, h.2.2.2⟩
theorem opens_recs : Opens Tryz.prog 30 (Kd.slice 71 P.k71) (fun l => l.length ≤ maxLen ∧ ∀ y ∈ l, y.f0.size ≤ maxLen ∧ y.f3.size ≤ maxLen) :=
  opens_slice Tryz.underlying30 (by kernel_rfl) opens_rec
/-- So many blocks has the settled world. -/
noncomputable def low : Nat := (World.holding Tryz.prog default ⟨#[], #[], []⟩).heap.size
/-- A world for the witness: the settled one, the listed tables holding what the row lists. -/
noncomputable def laidWorld (os : Os) : World :=
  { World.holding Tryz.prog os ⟨#[.cells #[.string { data := #[118, 97, 108, 117, 101, 32, 111, 117, 116, 32, 111, 102, 32, 114, 97, 110, 103, 101] }] 179, .cells #[.string { data := #[105, 110, 118, 97, 108, 105, 100, 32, 115, 121, 110, 116, 97, 120] }] 179], #[], []⟩ with heap := ((((((((World.holding Tryz.prog os ⟨#[.cells #[.string { data := #[118, 97, 108, 117, 101, 32, 111, 117, 116, 32, 111, 102, 32, 114, 97, 110, 103, 101] }] 179, .cells #[.string { data := #[105, 110, 118, 97, 108, 105, 100, 32, 115, 121, 110, 116, 97, 120] }] 179], #[], []⟩).heap.modify 4 fun
      | .cells _ t frozen => .cells #[.int .u8 0, .int .u8 1, .int .u8 28, .int .u8 2, .int .u8 29, .int .u8 14, .int .u8 24, .int .u8 3, .int .u8 30, .int .u8 22, .int .u8 20, .int .u8 15, .int .u8 25, .int .u8 17, .int .u8 4, .int .u8 8, .int .u8 31, .int .u8 27, .int .u8 13, .int .u8 23, .int .u8 21, .int .u8 19, .int .u8 16, .int .u8 7, .int .u8 26, .int .u8 12, .int .u8 18, .int .u8 6, .int .u8 11, .int .u8 5, .int .u8 10, .int .u8 9] t frozen
      | o => o).modify 5 fun
      | .cells _ t frozen => .cells #[.int .u8 0, .int .u8 1, .int .u8 56, .int .u8 2, .int .u8 57, .int .u8 49, .int .u8 28, .int .u8 3, .int .u8 61, .int .u8 58, .int .u8 42, .int .u8 50, .int .u8 38, .int .u8 29, .int .u8 17, .int .u8 4, .int .u8 62, .int .u8 47, .int .u8 59, .int .u8 36, .int .u8 45, .int .u8 43, .int .u8 51, .int .u8 22, .int .u8 53, .int .u8 39, .int .u8 33, .int .u8 30, .int .u8 24, .int .u8 18, .int .u8 12, .int .u8 5, .int .u8 63, .int .u8 55, .int .u8 48, .int .u8 27, .int .u8 60, .int .u8 41, .int .u8 37, .int .u8 16, .int .u8 46, .int .u8 35, .int .u8 44, .int .u8 21, .int .u8 52, .int .u8 32, .int .u8 23, .int .u8 11, .int .u8 54, .int .u8 26, .int .u8 40, .int .u8 15, .int .u8 34, .int .u8 20, .int .u8 31, .int .u8 10, .int .u8 25, .int .u8 14, .int .u8 19, .int .u8 9, .int .u8 13, .int .u8 8, .int .u8 7, .int .u8 6] t frozen
      | o => o).modify 1 fun
      | .cells _ t frozen => .cells #[.int .u64 1, .int .u64 10, .int .u64 100, .int .u64 1000, .int .u64 10000, .int .u64 100000, .int .u64 1000000, .int .u64 10000000, .int .u64 100000000, .int .u64 1000000000, .int .u64 10000000000, .int .u64 100000000000, .int .u64 1000000000000, .int .u64 10000000000000, .int .u64 100000000000000, .int .u64 1000000000000000, .int .u64 10000000000000000, .int .u64 100000000000000000, .int .u64 1000000000000000000, .int .u64 10000000000000000000] t frozen
      | o => o).modify 3 fun
      | .cells _ t frozen => .cells #[.int .u8 128, .int .u8 191, .int .u8 160, .int .u8 191, .int .u8 128, .int .u8 159, .int .u8 144, .int .u8 191, .int .u8 128, .int .u8 143, .int .u8 0, .int .u8 0, .int .u8 0, .int .u8 0, .int .u8 0, .int .u8 0, .int .u8 0, .int .u8 0, .int .u8 0, .int .u8 0, .int .u8 0, .int .u8 0, .int .u8 0, .int .u8 0, .int .u8 0, .int .u8 0, .int .u8 0, .int .u8 0, .int .u8 0, .int .u8 0, .int .u8 0, .int .u8 0] t frozen
      | o => o).modify 7 fun
      | .cells _ t frozen => .cells #[.iface 177 (.pointer (some ⟨low, 0, none⟩))] t frozen
      | o => o).modify 6 fun
      | .cells _ t frozen => .cells #[.iface 177 (.pointer (some ⟨low + 1, 0, none⟩))] t frozen
      | o => o).modify 2 fun
      | .cells _ t frozen => .cells #[.int .u8 240, .int .u8 240, .int .u8 240, .int .u8 240, .int .u8 240, .int .u8 240, .int .u8 240, .int .u8 240, .int .u8 240, .int .u8 240, .int .u8 240, .int .u8 240, .int .u8 240, .int .u8 240, .int .u8 240, .int .u8 240, .int .u8 240, .int .u8 240, .int .u8 240, .int .u8 240, .int .u8 240, .int .u8 240, .int .u8 240, .int .u8 240, .int .u8 240, .int .u8 240, .int .u8 240, .int .u8 240, .int .u8 240, .int .u8 240, .int .u8 240, .int .u8 240, .int .u8 240, .int .u8 240, .int .u8 240, .int .u8 240, .int .u8 240, .int .u8 240, .int .u8 240, .int .u8 240, .int .u8 240, .int .u8 240, .int .u8 240, .int .u8 240, .int .u8 240, .int .u8 240, .int .u8 240, .int .u8 240, .int .u8 240, .int .u8 240, .int .u8 240, .int .u8 240, .int .u8 240, .int .u8 240, .int .u8 240, .int .u8 240, .int .u8 240, .int .u8 240, .int .u8 240, .int .u8 240, .int .u8 240, .int .u8 240, .int .u8 240, .int .u8 240, .int .u8 240, .int .u8 240, .int .u8 240, .int .u8 240, .int .u8 240, .int .u8 240, .int .u8 240, .int .u8 240, .int .u8 240, .int .u8 240, .int .u8 240, .int .u8 240, .int .u8 240, .int .u8 240, .int .u8 240, .int .u8 240, .int .u8 240, .int .u8 240, .int .u8 240, .int .u8 240, .int .u8 240, .int .u8 240, .int .u8 240, .int .u8 240, .int .u8 240, .int .u8 240, .int .u8 240, .int .u8 240, .int .u8 240, .int .u8 240, .int .u8 240, .int .u8 240, .int .u8 240, .int .u8 240, .int .u8 240, .int .u8 240, .int .u8 240, .int .u8 240, .int .u8 240, .int .u8 240, .int .u8 240, .int .u8 240, .int .u8 240, .int .u8 240, .int .u8 240, .int .u8 240, .int .u8 240, .int .u8 240, .int .u8 240, .int .u8 240, .int .u8 240, .int .u8 240, .int .u8 240, .int .u8 240, .int .u8 240, .int .u8 240, .int .u8 240, .int .u8 240, .int .u8 240, .int .u8 240, .int .u8 240, .int .u8 240, .int .u8 240, .int .u8 240, .int .u8 241, .int .u8 241, .int .u8 241, .int .u8 241, .int .u8 241, .int .u8 241, .int .u8 241, .int .u8 241, .int .u8 241, .int .u8 241, .int .u8 241, .int .u8 241, .int .u8 241, .int .u8 241, .int .u8 241, .int .u8 241, .int .u8 241, .int .u8 241, .int .u8 241, .int .u8 241, .int .u8 241, .int .u8 241, .int .u8 241, .int .u8 241, .int .u8 241, .int .u8 241, .int .u8 241, .int .u8 241, .int .u8 241, .int .u8 241, .int .u8 241, .int .u8 241, .int .u8 241, .int .u8 241, .int .u8 241, .int .u8 241, .int .u8 241, .int .u8 241, .int .u8 241, .int .u8 241, .int .u8 241, .int .u8 241, .int .u8 241, .int .u8 241, .int .u8 241, .int .u8 241, .int .u8 241, .int .u8 241, .int .u8 241, .int .u8 241, .int .u8 241, .int .u8 241, .int .u8 241, .int .u8 241, .int .u8 241, .int .u8 241, .int .u8 241, .int .u8 241, .int .u8 241, .int .u8 241, .int .u8 241, .int .u8 241, .int .u8 241, .int .u8 241, .int .u8 241, .int .u8 241, .int .u8 2, .int .u8 2, .int .u8 2, .int .u8 2, .int .u8 2, .int .u8 2, .int .u8 2, .int .u8 2, .int .u8 2, .int .u8 2, .int .u8 2, .int .u8 2, .int .u8 2, .int .u8 2, .int .u8 2, .int .u8 2, .int .u8 2, .int .u8 2, .int .u8 2, .int .u8 2, .int .u8 2, .int .u8 2, .int .u8 2, .int .u8 2, .int .u8 2, .int .u8 2, .int .u8 2, .int .u8 2, .int .u8 2, .int .u8 2, .int .u8 19, .int .u8 3, .int .u8 3, .int .u8 3, .int .u8 3, .int .u8 3, .int .u8 3, .int .u8 3, .int .u8 3, .int .u8 3, .int .u8 3, .int .u8 3, .int .u8 3, .int .u8 35, .int .u8 3, .int .u8 3, .int .u8 52, .int .u8 4, .int .u8 4, .int .u8 4, .int .u8 68, .int .u8 241, .int .u8 241, .int .u8 241, .int .u8 241, .int .u8 241, .int .u8 241, .int .u8 241, .int .u8 241, .int .u8 241, .int .u8 241, .int .u8 241] t frozen
      | o => o) }
set_option maxRecDepth 100000 in
theorem laid_met (os : Os) : laidMet Tryz.prog Rows.fnExactSetInRow.laid ((laidWorld os).forCall (fun _ _ => 0) ⟨#[], #[.agg #[.string ByteArray.empty, .int .i64 0, .slice none 0 0], .string ByteArray.empty, .int .i64 0], []⟩).memory :=
  laidMet_of_run' 8 (by kernel_rfl) (by kernel_rfl)
theorem ptr_row (u : TypeId) (h : Tryz.prog.typeName? 3 u = some "*errors.errorString") : u = 177 :=
  typeName_ptr_named (nm := "errors.errorString") (by rw [show "*" ++ "errors.errorString" = "*errors.errorString" by decide]; kernel_rfl) (by kernel_rfl) (by decide) u (by rw [show "*" ++ "errors.errorString" = "*errors.errorString" by decide]; exact h)
/-- What the row lists is what the walk asks of the variables. -/
theorem vars_of {W : World} (hL : laidMet Tryz.prog Rows.fnExactSetInRow.laid W) : P.Vars W := by
  obtain ⟨_, _, hs, -, -, -⟩ := laid_sentinel (n := "strconv.ErrSyntax") (g := 6) hL.tail.tail.tail.tail.tail (by kernel_rfl) (by kernel_rfl) Tryz.underlying140 ptr_row Tryz.underlying177 Tryz.underlying179 rfl rfl Tryz.underlying9 (by kernel_rfl) (by kernel_rfl)
  obtain ⟨_, _, hr, -, -, -⟩ := laid_sentinel (n := "strconv.ErrRange") (g := 7) hL.tail.tail.tail.tail (by kernel_rfl) (by kernel_rfl) Tryz.underlying140 ptr_row Tryz.underlying177 Tryz.underlying179 rfl rfl Tryz.underlying9 (by kernel_rfl) (by kernel_rfl)
  have hp : laidMet Tryz.prog (("internal/strconv.uint64pow10", Lib.tabData .u64 Lib.pow10Tab) :: _) W := hL.tail.tail
  have ht := Lib.tabIs_of_head (g := 1) (by kernel_rfl) (by kernel_rfl) Tryz.underlying148 Tryz.underlying130 (by kernel_rfl) (by kernel_rfl) hp
  exact ⟨⟨_, _, hs⟩, ⟨_, _, hr⟩, ht⟩
set_option maxRecDepth 100000 in
theorem contract (H : Type) (enc : TypeId × Value → H) (W : World) (base : Nat) (args : Array Value) (ds gs : List (DataW H)) (before : List MemPlace)
    (hval0 : ∀ (j : Nat) t v, Tryz.f10.params[j]? = some t → args[j]? = some v → Value.okWide Tryz.prog W .any base t v)
    (hW : DataW.Whole enc Tryz.prog Tryz.f10.params.toList Rows.fnExactSetInSpec.vars false W args.toList ds gs before)
    (hsz0 : (DataW.weightsEach Tryz.prog (Tryz.f10.params.toList ++ Rows.fnExactSetInSpec.plain.varTypes Tryz.prog) (ds ++ gs)).all (· ≤ reachBytes) = true) (hL : laidMet Tryz.prog Rows.fnExactSetInRow.laid W) :
    Calls Tryz.prog 10 args W fun e W' => ∃ v, e = .returned v ∧ Rows.fnExactSetInSpec.post enc Tryz.prog Tryz.f10 false true false false W args v W' := by
  have hsz : (DataW.weightsEach Tryz.prog (Tryz.f10.params.toList ++ Rows.fnExactSetInSpec.plain.varTypes Tryz.prog) (ds ++ gs)).all (· ≤ reachBytes) = true := hsz0
  have hval : ∀ (j : Nat) t v, Tryz.f10.params[j]? = some t → args[j]? = some v → Value.okWide Tryz.prog W .any base t v := hval0
  have hW' := hW
  obtain ⟨p, q, hA0, hV, rfl, hfz, hnd⟩ := hW
  have hA : DataW.TrodAll enc Tryz.prog W 0 (fun _ => true) true Tryz.f10.params.toList args.toList ds p := hA0
  rw [Tryz.params10] at hA hval hsz
  obtain ⟨v0, vs0, d0, ds0, p0, q0, hargs, rfl, rfl, h0, r0⟩ := trodAll_cons hA
  obtain ⟨v1, vs1, d1, ds1, p1, q1, rfl, rfl, rfl, h1, r1⟩ := trodAll_cons r0
  obtain ⟨v2, vs2, d2, ds2, p2, q2, rfl, rfl, rfl, h2, r2⟩ := trodAll_cons r1
  obtain ⟨rfl, rfl, rfl⟩ := trodAll_nil r2
  obtain rfl : args = #[v0, v1, v2] := by cases args; simp_all
  obtain ⟨rfl, rfl⟩ := trodVars_none hV
  have k0 := h0
  have lt0 : ∀ x ∈ p0, x.block < W.heap.size := by obtain ⟨m, hm⟩ := k0; exact DataW.trod_lt m _ _ _ hm
  obtain ⟨l0, n0, rfl, z0, f0⟩ := open_agg Tryz.underlying51 (by kernel_rfl) (by kernel_rfl) (hval 0 51 v0 rfl rfl) h0
  obtain ⟨c0_0, c0_1, c0_2, rfl⟩ := list3 z0
  obtain ⟨y0_0, hy0_0⟩ := f0 0 _ c0_0 rfl rfl
  obtain ⟨g0_0, eg0_0, wg0_0⟩ := opens_text Tryz.underlying9 H enc W 0 _ true _ _ _ hy0_0
  obtain ⟨rfl, _⟩ := List.cons.inj eg0_0
  obtain ⟨y0_1, hy0_1⟩ := f0 1 _ c0_1 rfl rfl
  obtain ⟨g0_1, eg0_1, wg0_1⟩ := opens_int Tryz.underlying3 H enc W 0 _ true _ _ _ hy0_1
  obtain ⟨rfl, _⟩ := List.cons.inj eg0_1
  obtain ⟨y0_2, hy0_2⟩ := f0 2 _ c0_2 rfl rfl
  obtain ⟨g0_2, ⟨Ag0_2, cg0_2, eg0_2, lg0_2, rg0_2⟩, mg0_2, wg0_2⟩ := opens_recs H enc W 0 _ true _ _ _ hy0_2
  obtain ⟨rfl, _⟩ := List.cons.inj eg0_2
  clear f0
  have k1 := h1
  have lt1 : ∀ x ∈ p1, x.block < W.heap.size := by obtain ⟨m, hm⟩ := k1; exact DataW.trod_lt m _ _ _ hm
  obtain ⟨a1, rfl, rfl, rfl, w1⟩ := open_string Tryz.underlying9 (hval 1 9 v1 rfl rfl) h1
  have wa1 : a1.size ≤ maxLen := by first | exact w1 | exact Nat.le_trans w1 (by decide)
  have k2 := h2
  have lt2 : ∀ x ∈ p2, x.block < W.heap.size := by obtain ⟨m, hm⟩ := k2; exact DataW.trod_lt m _ _ _ hm
  obtain ⟨a2, rfl, rfl, rfl, w2⟩ := open_int Tryz.underlying3 (hval 2 3 v2 rfl rfl) h2
  clear hA0 hval0 hsz0 hsz
  obtain ⟨k, hk⟩ := Pure.FnExactSetIn g0_0 g0_1 g0_2 a1 a2 wg0_0 mg0_2 wg0_2 wa1
  refine (P.laws_FnExactSetIn.calls k g0_0 g0_1 Ag0_2 cg0_2 g0_2 a1 a2 true W rg0_2 lg0_2 hk (vars_of hL)).mono fun e W' ⟨he, bel⟩ => ?_
  subst he
  exact ⟨_, rfl, _, _, _, [], _, [], hW', trodAll_mk1 (shut_bool Tryz.underlying4 _), (trodAll_cons_mk (Below.trod laidOut (by kernel_rfl) (of_decide_eq_true (by kernel_rfl)) k0 bel lt0) (trodAll_cons_mk (Below.trod laidOut (by kernel_rfl) (of_decide_eq_true (by kernel_rfl)) k1 bel lt1) (trodAll_cons_mk (Below.trod laidOut (by kernel_rfl) (of_decide_eq_true (by kernel_rfl)) k2 bel lt2) trodAll_mk0))), rfl, bel.frame _, fun h => by cases h⟩
set_option maxRecDepth 100000 in
theorem reads (os : Os) {H : Type} (enc : TypeId × Value → H) : ∃ places, DataW.whole enc Tryz.prog ((laidWorld os).forCall (fun _ _ => 0) ⟨#[], #[.agg #[.string ByteArray.empty, .int .i64 0, .slice none 0 0], .string ByteArray.empty, .int .i64 0], []⟩).memory Tryz.f10.params.toList Rows.fnExactSetInSpec.vars false (#[.agg #[.string ByteArray.empty, .int .i64 0, .slice none 0 0], .string ByteArray.empty, .int .i64 0] : Array Value).toList 8 = some ([.agg [.lit (.string []), .lit (.int .i64 0), .nil], .lit (.string []), .lit (.int .i64 0)], [], places) :=
  ⟨[], by kernel_rfl⟩
set_option maxRecDepth 100000 in
theorem lifted (os : Os) (started : os.Started) (H : Type) (enc : TypeId × Value → H) (F : Stop.Interp) :
    ReturnsInHanded {} Tryz.checked os 10 .any ((OpenSpec.ofChange Rows.fnExactSetInSpec).preRow enc Tryz.prog Tryz.f10 Rows.fnExactSetInRow.domain false Rows.fnExactSetInRow.laid) (((OpenSpec.ofChange Rows.fnExactSetInSpec).at F).post enc Tryz.prog Tryz.f10 false true false false) := by
  obtain ⟨places, hx⟩ := reads os enc
  refine returnsInHanded_of_row (C := Tryz.checked) (s := OpenSpec.ofChange Rows.fnExactSetInSpec) own started (by kernel_rfl) Tryz.func10
    (witness_row_at (enc := enc) (C := Tryz.checked) false (laidWorld os) #[.agg #[.string ByteArray.empty, .int .i64 0, .slice none 0 0], .string ByteArray.empty, .int .i64 0] rfl (by kernel_rfl) (by kernel_rfl) (by kernel_rfl)
      (OpenSpec.preRow_of_cond 8 hx (by kernel_rfl) (fun k hk => by cases hk) (by kernel_rfl) (laid_met os))) ?_
  intro W base args ds gs before hval hW _ _ hsz hL _ _
  exact contract H enc W base args ds gs before hval hW hsz hL
theorem said : Rows.FnExactSetInSaid :=
  OpenClaim.holds_of_cond 10 Tryz.f10 rfl rfl rfl rfl rfl rfl rfl ⟨rfl, rfl, rfl, rfl, rfl⟩ rfl rfl rfl rfl rfl (by kernel_rfl) Tryz.func10 (by kernel_rfl)
    (of_decide_eq_true (by kernel_rfl)) (by unfold Func.isWrapper; first | (rw [if_pos (by decide +kernel)]; kernel_rfl) | (rw [if_neg (by decide +kernel)]; exact ⟨rfl, rfl⟩))
    (fun os started H enc _ F => by rw [OpenClaim.pre_eq_preRow]; exact lifted os started H enc F)
theorem wants : Tryz.f10.params.toList.all (fun t => Tryz.prog.wantsStandIn t == false) = true := by kernel_rfl
theorem plain (f : FuncId) (fn : Func) (hf : Tryz.pinned.checked.prog.funcNamed "loop.example/g00300/laws.FnExactSetIn" = some f) (hfn : Tryz.pinned.checked.prog.funcs[f]? = some fn) :
    true = Tryz.pinned.checked.prog.looks [] ∧ ∀ (j : Nat) t, fn.params[j]? = some t → Tryz.pinned.checked.prog.wantsStandIn t = false := by
  obtain rfl : f = 10 := Option.some.inj ((show Tryz.prog.funcNamed "loop.example/g00300/laws.FnExactSetIn" = some 10 by kernel_rfl).symm.trans hf) |>.symm
  obtain rfl : fn = Tryz.f10 := (Option.some.inj (Tryz.func10.symm.trans hfn)).symm
  refine ⟨by kernel_rfl, fun j t ht => ?_⟩
  exact eq_of_beq (List.all_eq_true.1 wants t (Array.mem_toList_iff.2 (Array.mem_of_getElem? ht)))
theorem proved : Rows.FnExactSetInCardSaid :=
  Claim7.holds_tied_plain_at .later [] _ _ _ _ said (fun _ h => by cases h) (by kernel_rfl) (fun _ h => by cases h) fnExactSetIn_row_tie rfl ⟨rfl, rfl⟩ (by kernel_rfl) rfl plain (by kernel_rfl)
#print axioms proved
end Go.Proofs.YtkpkfallgjdkmaaGreatDoor.fnExactSetIn
namespace Go.Proofs.YtkpkfallgjdkmaaGreatDoor
/-- The card, under a short name, for the claim. -/
theorem fnExactSetIn_holds : Rows.FnExactSetInCardSaid := fnExactSetIn.proved
end Go.Proofs.YtkpkfallgjdkmaaGreatDoor
