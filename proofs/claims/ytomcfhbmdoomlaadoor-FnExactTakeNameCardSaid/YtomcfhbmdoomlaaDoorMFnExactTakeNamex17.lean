/- FnExactTakeName: part 18 of 18 of my texts for this claim, joined; the theorem stands in the last. Conditions: none beyond the statement's. -/
import Derived.Test.YtomcfhbmdoomlaaDoorMFnExactTakeNamex16
import Derived.Test.YtomcfhbmdoomlaaDoorMFnExactTakeNamex14
import Derived.Test.YtomcfhbmdoomlaaDoorCards
import Derived.Test.YtomcfhbmdoomlaaDoorTie
import Derived.Deep.DeepHandedRow
import Derived.WalkKit
import Derived.ProofKit
import Derived.OpenShut
import Derived.ShutString
import Derived.ChangeOld
import Derived.Below
import Derived.SizedLaws
-- PureFnExactTakeName
/- 'laws.FnExactTakeName' returns true: the reference and the program return the same. Conditions: the text's size. -/
namespace Go.Proofs.YtomcfhbmdoomlaaDoor.Pure
open Go.RowKit Go.Proofs.YtomcfhbmdoomlaaDoor.P Go.Proofs.YtomcfhbmdoomlaaDoorW.PrintWords Go.Proofs.YtomcfhbmdoomlaaDoorW.PrintLast
set_option linter.unusedVariables false
set_option linter.unusedSimpArgs false

def failT : ByteArray × Int × Bool := ((⟨#[]⟩ : ByteArray), 0, false)
theorem takename_both (s : ByteArray) (x : Int) (hs : s.size ≤ 1048576) : ∃ r, Ev (fun k => spec_TakeName.f k s x) r ∧ Ev (fun k => impl_TakeName.f k s x) r := by
  have sf : ∀ k, spec_TakeName.j0 (k + 1) s x true = some failT := fun k => rfl
  have jf : ∀ k, impl_TakeName.j0 (k + 1) s x true = some failT := fun k => rfl
  by_cases h6 : (s.size : Int) > 600
  · refine ⟨failT, Ev.of (fun k => spec_TakeName.mono _ _ _) (k := 1) ?_, Ev.of (fun k => impl_TakeName.mono _ _ _) (k := 1) ?_⟩
    · unfold spec_TakeName.f; rw [if_pos h6, sf]
    · unfold impl_TakeName.f; rw [if_pos h6, jf]
  · have hw : wrap64 ((s.size : Int) - 1) = (s.size : Int) - 1 := by unfold wrap64; omega
    have es : ∀ k, spec_TakeName.f k s x = spec_TakeName.j0 k s x (!decide (0 ≤ x ∧ x ≤ (s.size : Int) - 1)) := fun k => by
      unfold spec_TakeName.f; rw [if_neg h6, hw, within_spec]; rfl
    have ei : ∀ k, impl_TakeName.f k s x = impl_TakeName.j0 k s x (!decide (0 ≤ x ∧ x ≤ (s.size : Int))) := fun k => by
      unfold impl_TakeName.f; rw [if_neg h6, within_eq]; rfl
    by_cases hx : 0 ≤ x ∧ x ≤ (s.size : Int)
    · obtain ⟨a, rfl⟩ : ∃ a : Nat, x = (a : Int) := ⟨x.toNat, by omega⟩
      obtain ⟨r, r', g1, g2, g3, g4⟩ := take_both s (by omega) a (by omega)
      have hi : Ev (fun k => impl_TakeName.f k s (a : Int)) (if r'.2.2.2 = true then (r'.1, r'.2.2.1, true) else failT) := by
        refine Ev.congr (fun k => ei k) (Ev.step (f := fun k => (impl_takeName.f k s (a : Int)).bind fun bt166 => (if bt166.2.2.2 = true then (some (bt166.1, bt166.2.2.1, true)) else (some failT))) (fun k => ?_) (Ev.bind g2 ?_))
        · show impl_TakeName.j0 (k + 1) s (a : Int) _ = _
          rw [decide_eq_true hx]
          rfl
        · by_cases hr : r'.2.2.2 = true
          · simp only [if_pos hr]; exact Ev.now _
          · simp only [if_neg hr]; exact Ev.now _
      refine ⟨_, ?_, hi⟩
      by_cases hx2 : 0 ≤ (a : Int) ∧ (a : Int) ≤ (s.size : Int) - 1
      · refine Ev.congr (fun k => es k) (Ev.step (f := fun k => (spec_l2Take.f k s (a : Int)).bind fun bt131 => (if bt131.2.2.2 = true then (some (bt131.1, bt131.2.1, true)) else (some failT))) (fun k => ?_) (Ev.bind g1 ?_))
        · show spec_TakeName.j0 (k + 1) s (a : Int) _ = _
          rw [decide_eq_true hx2]
          rfl
        · by_cases hr : r.2.2.2 = true
          · have q := g4 hr
            rw [g3] at hr
            simp only [g3, if_pos hr, q.1, q.2.1]; exact Ev.now _
          · rw [g3] at hr
            simp only [g3, if_neg hr]; exact Ev.now _
      · have ha : a = s.size := by omega
        have hf : r'.2.2.2 = false := by
          have h1 := (Ev.of (fun k => impl_takeName.mono _ _ _) (k := 2) (r := failI) (g := fun k => impl_takeName.f k s (a : Int)) (by
            unfold impl_takeName.f
            exact impl_out s (by omega) 0 a [] [] _ _ (.inl (by omega))))
          obtain ⟨K1, q1⟩ := h1
          obtain ⟨K2, q2⟩ := g2
          have := (q1 (max K1 K2) (by omega)).symm.trans (q2 (max K1 K2) (by omega))
          rw [← Option.some.inj this]
          rfl
        rw [hf, if_neg (by simp)]
        refine Ev.of (fun k => spec_TakeName.mono _ _ _) (k := 1) ?_
        show spec_TakeName.f 1 s (a : Int) = _
        rw [es, decide_eq_false hx2]
        exact sf 0
    · refine ⟨failT, Ev.of (fun k => spec_TakeName.mono _ _ _) (k := 1) ?_, Ev.of (fun k => impl_TakeName.mono _ _ _) (k := 1) ?_⟩
      · rw [es, decide_eq_false (by omega)]; exact sf 0
      · rw [ei, decide_eq_false hx]; exact jf 0
theorem FnExactTakeName : laws_FnExactTakeName.Pure := by
  intro a0 a1 _ _
  suffices h : Ev (fun k => laws_FnExactTakeName.f k a0 a1) true from h.rounds
  by_cases h : (a0.size : Int) > 1048576
  · exact Ev.congr (fun k => by unfold laws_FnExactTakeName.f; rw [if_pos h]) (Ev.now true)
  · obtain ⟨r, h1, h2⟩ := takename_both a0 a1 (by omega)
    refine Ev.congr (fun k => by unfold laws_FnExactTakeName.f; rw [if_neg h]) (Ev.bind h1 (Ev.bind h2 ?_))
    simp
    exact Ev.now _
end Go.Proofs.YtomcfhbmdoomlaaDoor.Pure

-- LawFnExactTakeName
-- By my own call of the kit's print (wip/tools/pp.py), turned to a card by wip/tools/doorrow.py.
namespace Go.Proofs.YtomcfhbmdoomlaaDoor.fnExactTakeName
open Go.ChangeShapes Go.WideShapes Go.ChangeAt Go.RowKit
open Go.ChangeMaps (open_string shut_string)
set_option linter.unusedVariables false
theorem own : ownKnob Tryd.prog.godebug = none := by kernel_rfl
/-- A world for the witness: the settled one, the listed tables holding what the row lists. -/
noncomputable def laidWorld (os : Os) : World :=
  { World.holding Tryd.prog os ⟨#[], #[], []⟩ with heap := (((World.holding Tryd.prog os ⟨#[], #[], []⟩).heap.modify 2 fun
      | .cells _ t frozen => .cells #[.int .u8 128, .int .u8 191, .int .u8 160, .int .u8 191, .int .u8 128, .int .u8 159, .int .u8 144, .int .u8 191, .int .u8 128, .int .u8 143, .int .u8 0, .int .u8 0, .int .u8 0, .int .u8 0, .int .u8 0, .int .u8 0, .int .u8 0, .int .u8 0, .int .u8 0, .int .u8 0, .int .u8 0, .int .u8 0, .int .u8 0, .int .u8 0, .int .u8 0, .int .u8 0, .int .u8 0, .int .u8 0, .int .u8 0, .int .u8 0, .int .u8 0, .int .u8 0] t frozen
      | o => o).modify 1 fun
      | .cells _ t frozen => .cells #[.int .u8 240, .int .u8 240, .int .u8 240, .int .u8 240, .int .u8 240, .int .u8 240, .int .u8 240, .int .u8 240, .int .u8 240, .int .u8 240, .int .u8 240, .int .u8 240, .int .u8 240, .int .u8 240, .int .u8 240, .int .u8 240, .int .u8 240, .int .u8 240, .int .u8 240, .int .u8 240, .int .u8 240, .int .u8 240, .int .u8 240, .int .u8 240, .int .u8 240, .int .u8 240, .int .u8 240, .int .u8 240, .int .u8 240, .int .u8 240, .int .u8 240, .int .u8 240, .int .u8 240, .int .u8 240, .int .u8 240, .int .u8 240, .int .u8 240, .int .u8 240, .int .u8 240, .int .u8 240, .int .u8 240, .int .u8 240, .int .u8 240, .int .u8 240, .int .u8 240, .int .u8 240, .int .u8 240, .int .u8 240, .int .u8 240, .int .u8 240, .int .u8 240, .int .u8 240, .int .u8 240, .int .u8 240, .int .u8 240, .int .u8 240, .int .u8 240, .int .u8 240, .int .u8 240, .int .u8 240, .int .u8 240, .int .u8 240, .int .u8 240, .int .u8 240, .int .u8 240, .int .u8 240, .int .u8 240, .int .u8 240, .int .u8 240, .int .u8 240, .int .u8 240, .int .u8 240, .int .u8 240, .int .u8 240, .int .u8 240, .int .u8 240, .int .u8 240, .int .u8 240, .int .u8 240, .int .u8 240, .int .u8 240, .int .u8 240, .int .u8 240, .int .u8 240, .int .u8 240, .int .u8 240, .int .u8 240, .int .u8 240, .int .u8 240, .int .u8 240, .int .u8 240, .int .u8 240, .int .u8 240, .int .u8 240, .int .u8 240, .int .u8 240, .int .u8 240, .int .u8 240, .int .u8 240, .int .u8 240, .int .u8 240, .int .u8 240, .int .u8 240, .int .u8 240, .int .u8 240, .int .u8 240, .int .u8 240, .int .u8 240, .int .u8 240, .int .u8 240, .int .u8 240, .int .u8 240, .int .u8 240, .int .u8 240, .int .u8 240, .int .u8 240, .int .u8 240, .int .u8 240, .int .u8 240, .int .u8 240, .int .u8 240, .int .u8 240, .int .u8 240, .int .u8 240, .int .u8 240, .int .u8 240, .int .u8 240, .int .u8 240, .int .u8 241, .int .u8 241, .int .u8 241, .int .u8 241, .int .u8 241, .int .u8 241, .int .u8 241, .int .u8 241, .int .u8 241, .int .u8 241, .int .u8 241, .int .u8 241, .int .u8 241, .int .u8 241, .int .u8 241, .int .u8 241, .int .u8 241, .int .u8 241, .int .u8 241, .int .u8 241, .int .u8 241, .int .u8 241, .int .u8 241, .int .u8 241, .int .u8 241, .int .u8 241, .int .u8 241, .int .u8 241, .int .u8 241, .int .u8 241, .int .u8 241, .int .u8 241, .int .u8 241, .int .u8 241, .int .u8 241, .int .u8 241, .int .u8 241, .int .u8 241, .int .u8 241, .int .u8 241, .int .u8 241, .int .u8 241, .int .u8 241, .int .u8 241, .int .u8 241, .int .u8 241, .int .u8 241, .int .u8 241, .int .u8 241, .int .u8 241, .int .u8 241, .int .u8 241, .int .u8 241, .int .u8 241, .int .u8 241, .int .u8 241, .int .u8 241, .int .u8 241, .int .u8 241, .int .u8 241, .int .u8 241, .int .u8 241, .int .u8 241, .int .u8 241, .int .u8 241, .int .u8 241, .int .u8 2, .int .u8 2, .int .u8 2, .int .u8 2, .int .u8 2, .int .u8 2, .int .u8 2, .int .u8 2, .int .u8 2, .int .u8 2, .int .u8 2, .int .u8 2, .int .u8 2, .int .u8 2, .int .u8 2, .int .u8 2, .int .u8 2, .int .u8 2, .int .u8 2, .int .u8 2, .int .u8 2, .int .u8 2, .int .u8 2, .int .u8 2, .int .u8 2, .int .u8 2, .int .u8 2, .int .u8 2, .int .u8 2, .int .u8 2, .int .u8 19, .int .u8 3, .int .u8 3, .int .u8 3, .int .u8 3, .int .u8 3, .int .u8 3, .int .u8 3, .int .u8 3, .int .u8 3, .int .u8 3, .int .u8 3, .int .u8 3, .int .u8 35, .int .u8 3, .int .u8 3, .int .u8 52, .int .u8 4, .int .u8 4, .int .u8 4, .int .u8 68, .int .u8 241, .int .u8 241, .int .u8 241, .int .u8 241, .int .u8 241, .int .u8 241, .int .u8 241, .int .u8 241, .int .u8 241, .int .u8 241, .int .u8 241] t frozen
      | o => o) }
set_option maxRecDepth 100000 in
theorem laid_met (os : Os) : laidMet Tryd.prog Rows.fnExactTakeNameRow.laid ((laidWorld os).forCall (fun _ _ => 0) ⟨#[], #[.string ByteArray.empty, .int .i64 0], []⟩).memory :=
  laidMet_of_run' 8 (by kernel_rfl) (by kernel_rfl)
set_option maxRecDepth 100000 in
theorem contract (H : Type) (enc : TypeId × Value → H) (W : World) (base : Nat) (args : Array Value) (ds gs : List (DataW H)) (before : List MemPlace)
    (hval0 : ∀ (j : Nat) t v, Tryd.f3.params[j]? = some t → args[j]? = some v → Value.okWide Tryd.prog W .any base t v)
    (hW : DataW.Whole enc Tryd.prog Tryd.f3.params.toList Rows.fnExactTakeNameSpec.vars false W args.toList ds gs before)
    (hsz0 : (DataW.weightsEach Tryd.prog (Tryd.f3.params.toList ++ Rows.fnExactTakeNameSpec.plain.varTypes Tryd.prog) (ds ++ gs)).all (· ≤ reachBytes) = true) :
    Calls Tryd.prog 3 args W fun e W' => ∃ v, e = .returned v ∧ Rows.fnExactTakeNameSpec.post enc Tryd.prog Tryd.f3 false true false false W args v W' := by
  have hsz : (DataW.weightsEach Tryd.prog (Tryd.f3.params.toList ++ Rows.fnExactTakeNameSpec.plain.varTypes Tryd.prog) (ds ++ gs)).all (· ≤ reachBytes) = true := hsz0
  have hval : ∀ (j : Nat) t v, Tryd.f3.params[j]? = some t → args[j]? = some v → Value.okWide Tryd.prog W .any base t v := hval0
  have hW' := hW
  obtain ⟨p, q, hA0, hV, rfl, hfz, hnd⟩ := hW
  have hA : DataW.TrodAll enc Tryd.prog W 0 (fun _ => true) true Tryd.f3.params.toList args.toList ds p := hA0
  rw [Tryd.params3] at hA hval hsz
  obtain ⟨v0, vs0, d0, ds0, p0, q0, hargs, rfl, rfl, h0, r0⟩ := trodAll_cons hA
  obtain ⟨v1, vs1, d1, ds1, p1, q1, rfl, rfl, rfl, h1, r1⟩ := trodAll_cons r0
  obtain ⟨rfl, rfl, rfl⟩ := trodAll_nil r1
  obtain rfl : args = #[v0, v1] := by cases args; simp_all
  obtain ⟨rfl, rfl⟩ := trodVars_none hV
  obtain ⟨a0, rfl, rfl, rfl, y0⟩ := open_string Tryd.underlying9 (hval 0 9 v0 rfl rfl) h0
  have w0 : a0.size ≤ 140737488351232 := by
    have z := sized_string hsz (j := 0) (t := 9) rfl rfl
    rw [Array.length_toList] at z
    exact z
  obtain ⟨a1, rfl, rfl, rfl, w1⟩ := open_int Tryd.underlying3 (hval 1 3 v1 rfl rfl) h1
  clear hA0 hval0 hsz0 hsz
  refine (P.laws_FnExactTakeName.walk Pure.FnExactTakeName a0 a1 W w0 w1).mono fun e W' ⟨he, bel⟩ => ?_
  subst he
  exact ⟨_, rfl, _, _, _, [], _, [], hW', trodAll_mk1 (shut_bool Tryd.underlying4 _), (trodAll_cons_mk (shut_string Tryd.underlying9 y0) (trodAll_cons_mk (shut_int Tryd.underlying3 w1) trodAll_mk0)), rfl, bel.frame _, fun h => by cases h⟩

set_option maxRecDepth 100000 in
theorem reads (os : Os) {H : Type} (enc : TypeId × Value → H) : ∃ places, DataW.whole enc Tryd.prog ((laidWorld os).forCall (fun _ _ => 0) ⟨#[], #[.string ByteArray.empty, .int .i64 0], []⟩).memory Tryd.f3.params.toList Rows.fnExactTakeNameSpec.vars false (#[.string ByteArray.empty, .int .i64 0] : Array Value).toList 8 = some ([.lit (.string []), .lit (.int .i64 0)], [], places) :=
  ⟨[], by kernel_rfl⟩
set_option maxRecDepth 100000 in
theorem lifted (os : Os) (started : os.Started) (H : Type) (enc : TypeId × Value → H) (F : Stop.Interp) :
    ReturnsInHanded {} Tryd.checked os 3 .any ((OpenSpec.ofChange Rows.fnExactTakeNameSpec).preRow enc Tryd.prog Tryd.f3 Rows.fnExactTakeNameRow.domain false Rows.fnExactTakeNameRow.laid) (((OpenSpec.ofChange Rows.fnExactTakeNameSpec).at F).post enc Tryd.prog Tryd.f3 false true false false) := by
  obtain ⟨places, hx⟩ := reads os enc
  refine returnsInHanded_of_row (C := Tryd.checked) (s := OpenSpec.ofChange Rows.fnExactTakeNameSpec) own started (by kernel_rfl) Tryd.func3
    (witness_row_at (enc := enc) (C := Tryd.checked) false (laidWorld os) #[.string ByteArray.empty, .int .i64 0] rfl (by kernel_rfl) (by kernel_rfl) (by kernel_rfl)
      (OpenSpec.preRow_of_cond 8 hx (by kernel_rfl) (fun k hk => by cases hk) (by kernel_rfl) (laid_met os))) ?_
  intro W base args ds gs before hval hW _ _ hsz hL _ _
  exact contract H enc W base args ds gs before hval hW hsz
theorem said : Rows.FnExactTakeNameSaid :=
  OpenClaim.holds_of_cond 3 Tryd.f3 rfl rfl rfl rfl rfl rfl rfl ⟨rfl, rfl, rfl, rfl, rfl⟩ rfl rfl rfl rfl rfl (by kernel_rfl) Tryd.func3 (by kernel_rfl)
    (of_decide_eq_true (by kernel_rfl)) (by unfold Func.isWrapper; first | (rw [if_pos (by decide +kernel)]; kernel_rfl) | (rw [if_neg (by decide +kernel)]; exact ⟨rfl, rfl⟩))
    (fun os started H enc _ F => by rw [OpenClaim.pre_eq_preRow]; exact lifted os started H enc F)
theorem wants : Tryd.f3.params.toList.all (fun t => Tryd.prog.wantsStandIn t == false) = true := by kernel_rfl
theorem plain (f : FuncId) (fn : Func) (hf : Tryd.pinned.checked.prog.funcNamed "loop.example/g00300/laws.FnExactTakeName" = some f) (hfn : Tryd.pinned.checked.prog.funcs[f]? = some fn) :
    false = Tryd.pinned.checked.prog.looks [] ∧ ∀ (j : Nat) t, fn.params[j]? = some t → Tryd.pinned.checked.prog.wantsStandIn t = false := by
  obtain rfl : f = 3 := Option.some.inj ((show Tryd.prog.funcNamed "loop.example/g00300/laws.FnExactTakeName" = some 3 by kernel_rfl).symm.trans hf) |>.symm
  obtain rfl : fn = Tryd.f3 := (Option.some.inj (Tryd.func3.symm.trans hfn)).symm
  refine ⟨by kernel_rfl, fun j t ht => ?_⟩
  exact eq_of_beq (List.all_eq_true.1 wants t (Array.mem_toList_iff.2 (Array.mem_of_getElem? ht)))
theorem proved : Rows.FnExactTakeNameCardSaid :=
  Claim7.holds_tied_plain_at .later [] _ _ _ _ said (fun _ h => by cases h) (by kernel_rfl) (fun _ h => by cases h) fnExactTakeName_row_tie rfl ⟨rfl, rfl⟩ (by kernel_rfl) rfl plain (by kernel_rfl)
#print axioms proved
end Go.Proofs.YtomcfhbmdoomlaaDoor.fnExactTakeName
namespace Go.Proofs.YtomcfhbmdoomlaaDoor
/-- The card, under a short name, for the claim. -/
theorem fnExactTakeName_holds : Rows.FnExactTakeNameCardSaid := fnExactTakeName.proved
end Go.Proofs.YtomcfhbmdoomlaaDoor
