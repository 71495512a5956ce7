/- FnExactNewZone: part 29 of 29 of my texts for this claim, joined; the theorem stands in the last. Conditions: none beyond the statement's. -/
import Derived.Test.YtkpkfallgjdkmaaGreatDoorMFnExactNewZonex26
import Derived.Test.YtkpkfallgjdkmaaGreatDoorMFnExactNewZonex22
import Derived.Test.YtkpkfallgjdkmaaGreatDoorMFnExactNewZonex27
import Derived.Test.YtkpkfallgjdkmaaGreatDoorCards
import Derived.Test.YtkpkfallgjdkmaaGreatDoorTie
import Derived.Deep.DeepHandedRow
import Derived.Stop.LaidErr
import Derived.Lib.LaidTab
import Derived.Lib.ItoaNum
import Derived.WalkKit
import Derived.ProofKit
import Derived.OpenShut
import Derived.ShutString
import Derived.ChangeOld
import Derived.Below
import Derived.SizedLaws
namespace Go.Proofs.YtkpkfallgjdkmaaGreatDoor.Pure
open Go.RowKit Go.Proofs.YtkpkfallgjdkmaaGreatDoor.P Go.Proofs.YtkpkfallgjdkmaaGreatDoorW.PrintWords Go.Proofs.YtkpkfallgjdkmaaGreatDoorW.PrintLast Go.Proofs.YtkpkfallgjdkmaaGreatDoorW.PrintMore
set_option linter.unusedVariables false
set_option linter.unusedSimpArgs false
/-- A new zone's one record. -/
def firstR (apex : ByteArray) : ZRec := ⟨apex, 6, 60, (⟨#[48]⟩ : ByteArray)⟩
theorem zeroT : itB 0 = (⟨#[48]⟩ : ByteArray) := by
 unfold itB
 rw [show (0 : Int).toNat = 0 from rfl, Lib.decDigits_one (by decide)]
 rfl
theorem first_good (apex : ByteArray) (ha : apex.size ≤ 1048576) : goodRB (firstR apex) = goodL apex.data.toList := by
 obtain ⟨r1, r2⟩ := goodR_both (firstR apex) ⟨ha, show (⟨#[48]⟩ : ByteArray).size ≤ 1048576 by decide⟩
 obtain ⟨b, q, s1, s2, q1, q2, e, _⟩ := goodrec_both apex 6 60 (⟨#[48]⟩ : ByteArray) ha (by decide)
 have hb : goodRB (firstR apex) = b := Ev.unique r2 s2
 rw [hb, e]
 have hq : q.2 = true := by
  obtain ⟨v, hn1, hn2⟩ := number_eq (⟨#[48]⟩ : ByteArray) 4294967295 (by decide) (by decide) (by decide)
  have hc : (canL ([48] : List UInt8) && decide ((valL ([48] : List UInt8) : Int) ≤ 4294967295)) = true := by decide
  have hd : Ev (fun k => impl_DataBytes.f k 6 (⟨#[48]⟩ : ByteArray)) (strOfNums [v / 16777216 % 256, v / 65536 % 256, v / 256 % 256, v % 256], true) := by
   refine Ev.congr (f := fun k => (impl_big.f k v 4).bind fun b => some (b, true)) (fun k => ?_) (Ev.bind (big4 v) (Ev.now _))
   unfold impl_DataBytes.f dataSoa
   rw [if_neg (by decide), if_neg (by decide), if_pos rfl, hn1, Option.bind_some]
   rw [if_pos hc]
  have := Ev.unique q2 hd
  by_cases h : q.2 = true
  · exact h
  · rw [if_neg h] at this
    cases this
 rw [hq, Bool.true_and, decide_eq_true (by decide), Bool.and_true]
theorem first_rule (apex : ByteArray) : ruleS apex [firstR apex] = 0 := by
 unfold ruleS
 have hb : belowL apex.data.toList apex.data.toList = true := (bel_iff _ _).2 (bel_refl _)
 have h1 : ([firstR apex].any fun r => !belowL (nmL r) apex.data.toList) = false := by
  rw [List.any_cons, List.any_nil, Bool.or_false]
  show (!belowL apex.data.toList apex.data.toList) = false
  rw [hb]; rfl
 have h2 : soaW apex [firstR apex] = 1 := by
  show (if (6 : Int) = 6 then (if apex = apex then (1 : Int) else 2) else 0) + 0 = 1
  rw [if_pos rfl, if_pos rfl]; rfl
 have h5 : hasL [firstR apex] apex.data.toList 5 = false := by
  unfold hasL
  rw [List.any_cons, List.any_nil, Bool.or_false]
  show (decide (apex.data.toList = apex.data.toList) && decide ((6 : Int) = 5)) = false
  rw [decide_eq_false (show ¬ (6 : Int) = 5 by decide), Bool.and_false]
 have h6 : [firstR apex].any (six apex.data.toList [firstR apex]) = false := by
  rw [List.any_cons, List.any_nil, Bool.or_false]
  have hc : cutOf apex.data.toList [firstR apex] (nmL (firstR apex)) = none := by
   unfold cutOf
   rw [cutL, if_neg (fun h => h.1 rfl)]
  unfold six
  rw [hc]
 rw [if_neg (by rw [h1]; decide), if_neg (by rw [h2]; decide), if_neg (by rw [show adjB [firstR apex] = false from rfl]; decide), if_neg (by rw [show pairB [] [firstR apex] = false from rfl]; decide), if_neg (by rw [h5]; decide), if_neg (by rw [h6]; decide)]
theorem apex_good {l : List UInt8} (h : apexL l = true) : goodL l = true := by
 unfold apexL at h
 rw [Bool.and_eq_true] at h
 exact h.1
theorem first_zone (apex : ByteArray) (ha : apex.size ≤ 1048576) : zoneB apex 0 [firstR apex] = apexL apex.data.toList := by
 unfold zoneB
 rw [decide_eq_true (show (0 : Int) ≤ 0 ∧ (0 : Int) ≤ 1152921504606846976 by decide), Bool.true_and]
 have hw : wholeB apex [firstR apex] = apexL apex.data.toList := by
  unfold wholeB
  cases h : apexL apex.data.toList with
  | false => rfl
  | true =>
   rw [Bool.true_and, show riseB [firstR apex] = (goodRB (firstR apex) && true) from rfl, first_good apex ha, apex_good h]
   rfl
 cases h : apexL apex.data.toList with
 | false =>
  rw [h] at hw
  rw [show ruleT apex [firstR apex] = 9 by unfold ruleT; rw [hw]; rfl]
  rfl
 | true =>
  rw [h] at hw
  rw [show ruleT apex [firstR apex] = 0 by unfold ruleT; rw [hw, if_pos rfl, first_rule], decide_eq_true rfl, Bool.true_and]
  have ea : atL [firstR apex] apex 6 = [firstR apex] := by
   unfold atL
   rw [List.filter_cons, if_pos (by simp [firstR]), List.filter_nil]
  rw [ea, List.all_cons, List.all_nil, Bool.and_true]
  refine decide_eq_true ?_
  show (⟨#[48]⟩ : ByteArray) = serT 0
  unfold serT
  rw [show Int.tmod 0 4294967296 = 0 from rfl, zeroT]
theorem newZ_both (apex : ByteArray) (ha : apex.size ≤ 1048576) : ∃ (a : ByteArray) (L : List ZRec) (ok : Bool), L.length ≤ 1 ∧ Ev (fun k => spec_NewZone.f k apex) (a, 0, L, ok) ∧ Ev (fun k => impl_NewZone.f k apex) (a, 0, L, ok) := by
 have e1 := apex_spec apex ha
 have e2 := (zone_both apex 0 [firstR apex] ha (by rw [List.length_singleton]; decide) (fun r hr => by rw [List.mem_singleton.1 hr]; exact ⟨ha, show (⟨#[48]⟩ : ByteArray).size ≤ 1048576 by decide⟩)).2
 rw [first_zone apex ha] at e2
 have ei : ∀ k, impl_NewZone.f k apex = (impl_GoodZone.f k apex 0 [firstR apex]).bind fun t629 => (if t629 = true then (some (apex, 0, [firstR apex], true)) else (some ((⟨#[]⟩ : ByteArray), 0, ([] : List ZRec), false))) := fun k => rfl
 cases h : apexL apex.data.toList with
 | false =>
  rw [h] at e1 e2
  exact ⟨(⟨#[]⟩ : ByteArray), [], false, by decide, Ev.congr (fun k => rfl) (Ev.bind e1 (Ev.now _)), Ev.congr ei (Ev.bind e2 (Ev.now _))⟩
 | true =>
  rw [h] at e1 e2
  exact ⟨apex, [firstR apex], true, by rw [List.length_singleton]; decide, Ev.congr (fun k => rfl) (Ev.bind e1 (Ev.now _)), Ev.congr ei (Ev.bind e2 (Ev.now _))⟩
theorem FnExactNewZone : laws_FnExactNewZone.Pure := by
 intro apex _
 suffices h : Ev (fun k => laws_FnExactNewZone.f k apex) true from h.rounds
 unfold laws_FnExactNewZone.f
 by_cases h : (apex.size : Int) > 1048576
 · simp only [if_pos h]; exact Ev.now _
 · simp only [if_neg h]
   obtain ⟨a, L, ok, hl, q1, q2⟩ := newZ_both apex (by omega)
   have eE := eqZ_ev a 0 L (by omega)
   have eM : Ev (fun k => laws_markZone.f k a 0 L 1) (((1 + 4 * L.length : Nat) : Int), marksR 1 L.length) := Ev.congr (fun k => rfl) (Ev.bind (markR_ev 1 (by omega) L (by omega)) (Ev.now _))
   have eH : Ev (fun k => laws_heldZone.f k a 0 (marksR 1 L.length) 1) ((1 + 4 * L.length : Nat) : Int) := by
    refine Ev.congr (fun k => rfl) (Ev.bind (heldR_ev 1 L.length (by omega) (by omega)) ?_)
    simp only [if_neg (show ¬ ((1 + 4 * L.length : Nat) : Int) < 0 by omega)]
    exact Ev.now _
   refine Ev.bind q1 (Ev.bind q2 (Ev.bind eE ?_))
   simp only [if_true, bne_self_eq_false]
   have j1 : Ev (fun k => laws_FnExactNewZone.j1 k ((1 + 4 * L.length : Nat) : Int) false a 0 (marksR 1 L.length)) true := by
    refine Ev.step (fun k => by rw [laws_FnExactNewZone.j1, if_neg (by decide)]) (Ev.bind eH ?_)
    simp only [if_neg (show ¬ ((1 + 4 * L.length : Nat) : Int) < 0 by omega), if_true]
    exact Ev.now _
   refine Ev.step (fun k => by rw [laws_FnExactNewZone.j0, if_neg (by decide)]) (Ev.bind eM (Ev.bind eH ?_))
   simp only [if_neg (show ¬ ((1 + 4 * L.length : Nat) : Int) < 0 by omega), if_true]
   refine Ev.bind q2 (Ev.bind eE ?_)
   simp only [if_true, bne_self_eq_false]
   exact j1
end Go.Proofs.YtkpkfallgjdkmaaGreatDoor.Pure
namespace Go.Proofs.YtkpkfallgjdkmaaGreatDoor.fnExactNewZone
open Go.ChangeShapes Go.WideShapes Go.ChangeAt Go.RowKit
open Go.ChangeMaps (open_string shut_string)
set_option linter.unusedVariables false
theorem own : ownKnob Tryz.prog.godebug = none := by kernel_rfl
/-- So many blocks has the settled world. -/
noncomputable def low : Nat := (World.holding Tryz.prog default ⟨#[], #[], []⟩).heap.size
/-- A world for the witness: the settled one, the listed tables holding what the row lists. -/
noncomputable def laidWorld (os : Os) : World :=
  { World.holding Tryz.prog os ⟨#[.cells #[.string { data := #[118, 97, 108, 117, 101, 32, 111, 117, 116, 32, 111, 102, 32, 114, 97, 110, 103, 101] }] 179, .cells #[.string { data := #[105, 110, 118, 97, 108, 105, 100, 32, 115, 121, 110, 116, 97, 120] }] 179], #[], []⟩ with heap := ((((((((World.holding Tryz.prog os ⟨#[.cells #[.string { data := #[118, 97, 108, 117, 101, 32, 111, 117, 116, 32, 111, 102, 32, 114, 97, 110, 103, 101] }] 179, .cells #[.string { data := #[105, 110, 118, 97, 108, 105, 100, 32, 115, 121, 110, 116, 97, 120] }] 179], #[], []⟩).heap.modify 4 fun
      | .cells _ t frozen => .cells #[.int .u8 0, .int .u8 1, .int .u8 28, .int .u8 2, .int .u8 29, .int .u8 14, .int .u8 24, .int .u8 3, .int .u8 30, .int .u8 22, .int .u8 20, .int .u8 15, .int .u8 25, .int .u8 17, .int .u8 4, .int .u8 8, .int .u8 31, .int .u8 27, .int .u8 13, .int .u8 23, .int .u8 21, .int .u8 19, .int .u8 16, .int .u8 7, .int .u8 26, .int .u8 12, .int .u8 18, .int .u8 6, .int .u8 11, .int .u8 5, .int .u8 10, .int .u8 9] t frozen
      | o => o).modify 5 fun
      | .cells _ t frozen => .cells #[.int .u8 0, .int .u8 1, .int .u8 56, .int .u8 2, .int .u8 57, .int .u8 49, .int .u8 28, .int .u8 3, .int .u8 61, .int .u8 58, .int .u8 42, .int .u8 50, .int .u8 38, .int .u8 29, .int .u8 17, .int .u8 4, .int .u8 62, .int .u8 47, .int .u8 59, .int .u8 36, .int .u8 45, .int .u8 43, .int .u8 51, .int .u8 22, .int .u8 53, .int .u8 39, .int .u8 33, .int .u8 30, .int .u8 24, .int .u8 18, .int .u8 12, .int .u8 5, .int .u8 63, .int .u8 55, .int .u8 48, .int .u8 27, .int .u8 60, .int .u8 41, .int .u8 37, .int .u8 16, .int .u8 46, .int .u8 35, .int .u8 44, .int .u8 21, .int .u8 52, .int .u8 32, .int .u8 23, .int .u8 11, .int .u8 54, .int .u8 26, .int .u8 40, .int .u8 15, .int .u8 34, .int .u8 20, .int .u8 31, .int .u8 10, .int .u8 25, .int .u8 14, .int .u8 19, .int .u8 9, .int .u8 13, .int .u8 8, .int .u8 7, .int .u8 6] t frozen
      | o => o).modify 1 fun
      | .cells _ t frozen => .cells #[.int .u64 1, .int .u64 10, .int .u64 100, .int .u64 1000, .int .u64 10000, .int .u64 100000, .int .u64 1000000, .int .u64 10000000, .int .u64 100000000, .int .u64 1000000000, .int .u64 10000000000, .int .u64 100000000000, .int .u64 1000000000000, .int .u64 10000000000000, .int .u64 100000000000000, .int .u64 1000000000000000, .int .u64 10000000000000000, .int .u64 100000000000000000, .int .u64 1000000000000000000, .int .u64 10000000000000000000] t frozen
      | o => o).modify 3 fun
      | .cells _ t frozen => .cells #[.int .u8 128, .int .u8 191, .int .u8 160, .int .u8 191, .int .u8 128, .int .u8 159, .int .u8 144, .int .u8 191, .int .u8 128, .int .u8 143, .int .u8 0, .int .u8 0, .int .u8 0, .int .u8 0, .int .u8 0, .int .u8 0, .int .u8 0, .int .u8 0, .int .u8 0, .int .u8 0, .int .u8 0, .int .u8 0, .int .u8 0, .int .u8 0, .int .u8 0, .int .u8 0, .int .u8 0, .int .u8 0, .int .u8 0, .int .u8 0, .int .u8 0, .int .u8 0] t frozen
      | o => o).modify 7 fun
      | .cells _ t frozen => .cells #[.iface 177 (.pointer (some ⟨low, 0, none⟩))] t frozen
      | o => o).modify 6 fun
      | .cells _ t frozen => .cells #[.iface 177 (.pointer (some ⟨low + 1, 0, none⟩))] t frozen
      | o => o).modify 2 fun
      | .cells _ t frozen => .cells #[.int .u8 240, .int .u8 240, .int .u8 240, .int .u8 240, .int .u8 240, .int .u8 240, .int .u8 240, .int .u8 240, .int .u8 240, .int .u8 240, .int .u8 240, .int .u8 240, .int .u8 240, .int .u8 240, .int .u8 240, .int .u8 240, .int .u8 240, .int .u8 240, .int .u8 240, .int .u8 240, .int .u8 240, .int .u8 240, .int .u8 240, .int .u8 240, .int .u8 240, .int .u8 240, .int .u8 240, .int .u8 240, .int .u8 240, .int .u8 240, .int .u8 240, .int .u8 240, .int .u8 240, .int .u8 240, .int .u8 240, .int .u8 240, .int .u8 240, .int .u8 240, .int .u8 240, .int .u8 240, .int .u8 240, .int .u8 240, .int .u8 240, .int .u8 240, .int .u8 240, .int .u8 240, .int .u8 240, .int .u8 240, .int .u8 240, .int .u8 240, .int .u8 240, .int .u8 240, .int .u8 240, .int .u8 240, .int .u8 240, .int .u8 240, .int .u8 240, .int .u8 240, .int .u8 240, .int .u8 240, .int .u8 240, .int .u8 240, .int .u8 240, .int .u8 240, .int .u8 240, .int .u8 240, .int .u8 240, .int .u8 240, .int .u8 240, .int .u8 240, .int .u8 240, .int .u8 240, .int .u8 240, .int .u8 240, .int .u8 240, .int .u8 240, .int .u8 240, .int .u8 240, .int .u8 240, .int .u8 240, .int .u8 240, .int .u8 240, .int .u8 240, .int .u8 240, .int .u8 240, .int .u8 240, .int .u8 240, .int .u8 240, .int .u8 240, .int .u8 240, .int .u8 240, .int .u8 240, .int .u8 240, .int .u8 240, .int .u8 240, .int .u8 240, .int .u8 240, .int .u8 240, .int .u8 240, .int .u8 240, .int .u8 240, .int .u8 240, .int .u8 240, .int .u8 240, .int .u8 240, .int .u8 240, .int .u8 240, .int .u8 240, .int .u8 240, .int .u8 240, .int .u8 240, .int .u8 240, .int .u8 240, .int .u8 240, .int .u8 240, .int .u8 240, .int .u8 240, .int .u8 240, .int .u8 240, .int .u8 240, .int .u8 240, .int .u8 240, .int .u8 240, .int .u8 240, .int .u8 240, .int .u8 240, .int .u8 240, .int .u8 240, .int .u8 241, .int .u8 241, .int .u8 241, .int .u8 241, .int .u8 241, .int .u8 241, .int .u8 241, .int .u8 241, .int .u8 241, .int .u8 241, .int .u8 241, .int .u8 241, .int .u8 241, .int .u8 241, .int .u8 241, .int .u8 241, .int .u8 241, .int .u8 241, .int .u8 241, .int .u8 241, .int .u8 241, .int .u8 241, .int .u8 241, .int .u8 241, .int .u8 241, .int .u8 241, .int .u8 241, .int .u8 241, .int .u8 241, .int .u8 241, .int .u8 241, .int .u8 241, .int .u8 241, .int .u8 241, .int .u8 241, .int .u8 241, .int .u8 241, .int .u8 241, .int .u8 241, .int .u8 241, .int .u8 241, .int .u8 241, .int .u8 241, .int .u8 241, .int .u8 241, .int .u8 241, .int .u8 241, .int .u8 241, .int .u8 241, .int .u8 241, .int .u8 241, .int .u8 241, .int .u8 241, .int .u8 241, .int .u8 241, .int .u8 241, .int .u8 241, .int .u8 241, .int .u8 241, .int .u8 241, .int .u8 241, .int .u8 241, .int .u8 241, .int .u8 241, .int .u8 241, .int .u8 241, .int .u8 2, .int .u8 2, .int .u8 2, .int .u8 2, .int .u8 2, .int .u8 2, .int .u8 2, .int .u8 2, .int .u8 2, .int .u8 2, .int .u8 2, .int .u8 2, .int .u8 2, .int .u8 2, .int .u8 2, .int .u8 2, .int .u8 2, .int .u8 2, .int .u8 2, .int .u8 2, .int .u8 2, .int .u8 2, .int .u8 2, .int .u8 2, .int .u8 2, .int .u8 2, .int .u8 2, .int .u8 2, .int .u8 2, .int .u8 2, .int .u8 19, .int .u8 3, .int .u8 3, .int .u8 3, .int .u8 3, .int .u8 3, .int .u8 3, .int .u8 3, .int .u8 3, .int .u8 3, .int .u8 3, .int .u8 3, .int .u8 3, .int .u8 35, .int .u8 3, .int .u8 3, .int .u8 52, .int .u8 4, .int .u8 4, .int .u8 4, .int .u8 68, .int .u8 241, .int .u8 241, .int .u8 241, .int .u8 241, .int .u8 241, .int .u8 241, .int .u8 241, .int .u8 241, .int .u8 241, .int .u8 241, .int .u8 241] t frozen
      | o => o) }
set_option maxRecDepth 100000 in
theorem laid_met (os : Os) : laidMet Tryz.prog Rows.fnExactNewZoneRow.laid ((laidWorld os).forCall (fun _ _ => 0) ⟨#[], #[.string ByteArray.empty], []⟩).memory :=
  laidMet_of_run' 8 (by kernel_rfl) (by kernel_rfl)
theorem ptr_row (u : TypeId) (h : Tryz.prog.typeName? 3 u = some "*errors.errorString") : u = 177 :=
  typeName_ptr_named (nm := "errors.errorString") (by rw [show "*" ++ "errors.errorString" = "*errors.errorString" by decide]; kernel_rfl) (by kernel_rfl) (by decide) u (by rw [show "*" ++ "errors.errorString" = "*errors.errorString" by decide]; exact h)
/-- What the row lists is what the walk asks of the variables. -/
theorem vars_of {W : World} (hL : laidMet Tryz.prog Rows.fnExactNewZoneRow.laid W) : P.Vars W := by
  obtain ⟨_, _, hs, -, -, -⟩ := laid_sentinel (n := "strconv.ErrSyntax") (g := 6) hL.tail.tail.tail.tail.tail (by kernel_rfl) (by kernel_rfl) Tryz.underlying140 ptr_row Tryz.underlying177 Tryz.underlying179 rfl rfl Tryz.underlying9 (by kernel_rfl) (by kernel_rfl)
  obtain ⟨_, _, hr, -, -, -⟩ := laid_sentinel (n := "strconv.ErrRange") (g := 7) hL.tail.tail.tail.tail (by kernel_rfl) (by kernel_rfl) Tryz.underlying140 ptr_row Tryz.underlying177 Tryz.underlying179 rfl rfl Tryz.underlying9 (by kernel_rfl) (by kernel_rfl)
  have hp : laidMet Tryz.prog (("internal/strconv.uint64pow10", Lib.tabData .u64 Lib.pow10Tab) :: _) W := hL.tail.tail
  have ht := Lib.tabIs_of_head (g := 1) (by kernel_rfl) (by kernel_rfl) Tryz.underlying148 Tryz.underlying130 (by kernel_rfl) (by kernel_rfl) hp
  exact ⟨⟨_, _, hs⟩, ⟨_, _, hr⟩, ht⟩
set_option maxRecDepth 100000 in
theorem contract (H : Type) (enc : TypeId × Value → H) (W : World) (base : Nat) (args : Array Value) (ds gs : List (DataW H)) (before : List MemPlace)
    (hval0 : ∀ (j : Nat) t v, Tryz.f5.params[j]? = some t → args[j]? = some v → Value.okWide Tryz.prog W .any base t v)
    (hW : DataW.Whole enc Tryz.prog Tryz.f5.params.toList Rows.fnExactNewZoneSpec.vars false W args.toList ds gs before)
    (hsz0 : (DataW.weightsEach Tryz.prog (Tryz.f5.params.toList ++ Rows.fnExactNewZoneSpec.plain.varTypes Tryz.prog) (ds ++ gs)).all (· ≤ reachBytes) = true) (hL : laidMet Tryz.prog Rows.fnExactNewZoneRow.laid W) :
    Calls Tryz.prog 5 args W fun e W' => ∃ v, e = .returned v ∧ Rows.fnExactNewZoneSpec.post enc Tryz.prog Tryz.f5 false true false false W args v W' := by
  have hsz : (DataW.weightsEach Tryz.prog (Tryz.f5.params.toList ++ Rows.fnExactNewZoneSpec.plain.varTypes Tryz.prog) (ds ++ gs)).all (· ≤ reachBytes) = true := hsz0
  have hval : ∀ (j : Nat) t v, Tryz.f5.params[j]? = some t → args[j]? = some v → Value.okWide Tryz.prog W .any base t v := hval0
  have hW' := hW
  obtain ⟨p, q, hA0, hV, rfl, hfz, hnd⟩ := hW
  have hA : DataW.TrodAll enc Tryz.prog W 0 (fun _ => true) true Tryz.f5.params.toList args.toList ds p := hA0
  rw [Tryz.params5] at hA hval hsz
  obtain ⟨v0, vs0, d0, ds0, p0, q0, hargs, rfl, rfl, h0, r0⟩ := trodAll_cons hA
  obtain ⟨rfl, rfl, rfl⟩ := trodAll_nil r0
  obtain rfl : args = #[v0] := by cases args; simp_all
  obtain ⟨rfl, rfl⟩ := trodVars_none hV
  obtain ⟨a0, rfl, rfl, rfl, y0⟩ := open_string Tryz.underlying9 (hval 0 9 v0 rfl rfl) h0
  have w0 : a0.size ≤ 140737488351232 := by
    have z := sized_string hsz (j := 0) (t := 9) rfl rfl
    rw [Array.length_toList] at z
    exact z
  clear hA0 hval0 hsz0 hsz
  refine (P.laws_FnExactNewZone.walk Pure.FnExactNewZone a0 W w0 (vars_of hL)).mono fun e W' ⟨he, bel⟩ => ?_
  subst he
  exact ⟨_, rfl, _, _, _, [], _, [], hW', trodAll_mk1 (shut_bool Tryz.underlying4 _), (trodAll_cons_mk (shut_string Tryz.underlying9 y0) trodAll_mk0), rfl, bel.frame _, fun h => by cases h⟩
set_option maxRecDepth 100000 in
theorem reads (os : Os) {H : Type} (enc : TypeId × Value → H) : ∃ places, DataW.whole enc Tryz.prog ((laidWorld os).forCall (fun _ _ => 0) ⟨#[], #[.string ByteArray.empty], []⟩).memory Tryz.f5.params.toList Rows.fnExactNewZoneSpec.vars false (#[.string ByteArray.empty] : Array Value).toList 8 = some ([.lit (.string [])], [], places) :=
  ⟨[], by kernel_rfl⟩
set_option maxRecDepth 100000 in
theorem lifted (os : Os) (started : os.Started) (H : Type) (enc : TypeId × Value → H) (F : Stop.Interp) :
    ReturnsInHanded {} Tryz.checked os 5 .any ((OpenSpec.ofChange Rows.fnExactNewZoneSpec).preRow enc Tryz.prog Tryz.f5 Rows.fnExactNewZoneRow.domain false Rows.fnExactNewZoneRow.laid) (((OpenSpec.ofChange Rows.fnExactNewZoneSpec).at F).post enc Tryz.prog Tryz.f5 false true false false) := by
  obtain ⟨places, hx⟩ := reads os enc
  refine returnsInHanded_of_row (C := Tryz.checked) (s := OpenSpec.ofChange Rows.fnExactNewZoneSpec) own started (by kernel_rfl) Tryz.func5
    (witness_row_at (enc := enc) (C := Tryz.checked) false (laidWorld os) #[.string ByteArray.empty] rfl (by kernel_rfl) (by kernel_rfl) (by kernel_rfl)
      (OpenSpec.preRow_of_cond 8 hx (by kernel_rfl) (fun k hk => by cases hk) (by kernel_rfl) (laid_met os))) ?_
  intro W base args ds gs before hval hW _ _ hsz hL _ _
  exact contract H enc W base args ds gs before hval hW hsz hL
theorem said : Rows.FnExactNewZoneSaid :=
  OpenClaim.holds_of_cond 5 Tryz.f5 rfl rfl rfl rfl rfl rfl rfl ⟨rfl, rfl, rfl, rfl, rfl⟩ rfl rfl rfl rfl rfl (by kernel_rfl) Tryz.func5 (by kernel_rfl)
    (of_decide_eq_true (by kernel_rfl)) (by unfold Func.isWrapper; first | (rw [if_pos (by decide +kernel)]; kernel_rfl) | (rw [if_neg (by decide +kernel)]; exact ⟨rfl, rfl⟩))
    (fun os started H enc _ F => by rw [OpenClaim.pre_eq_preRow]; exact lifted os started H enc F)
theorem wants : Tryz.f5.params.toList.all (fun t => Tryz.prog.wantsStandIn t == false) = true := by kernel_rfl
theorem plain (f : FuncId) (fn : Func) (hf : Tryz.pinned.checked.prog.funcNamed "loop.example/g00300/laws.FnExactNewZone" = some f) (hfn : Tryz.pinned.checked.prog.funcs[f]? = some fn) :
    true = Tryz.pinned.checked.prog.looks [] ∧ ∀ (j : Nat) t, fn.params[j]? = some t → Tryz.pinned.checked.prog.wantsStandIn t = false := by
  obtain rfl : f = 5 := Option.some.inj ((show Tryz.prog.funcNamed "loop.example/g00300/laws.FnExactNewZone" = some 5 by kernel_rfl).symm.trans hf) |>.symm
  obtain rfl : fn = Tryz.f5 := (Option.some.inj (Tryz.func5.symm.trans hfn)).symm
  refine ⟨by kernel_rfl, fun j t ht => ?_⟩
  exact eq_of_beq (List.all_eq_true.1 wants t (Array.mem_toList_iff.2 (Array.mem_of_getElem? ht)))
theorem proved : Rows.FnExactNewZoneCardSaid :=
  Claim7.holds_tied_plain_at .later [] _ _ _ _ said (fun _ h => by cases h) (by kernel_rfl) (fun _ h => by cases h) fnExactNewZone_row_tie rfl ⟨rfl, rfl⟩ (by kernel_rfl) rfl plain (by kernel_rfl)
#print axioms proved
end Go.Proofs.YtkpkfallgjdkmaaGreatDoor.fnExactNewZone
namespace Go.Proofs.YtkpkfallgjdkmaaGreatDoor
/-- The card, under a short name, for the claim. -/
theorem fnExactNewZone_holds : Rows.FnExactNewZoneCardSaid := fnExactNewZone.proved
end Go.Proofs.YtkpkfallgjdkmaaGreatDoor
