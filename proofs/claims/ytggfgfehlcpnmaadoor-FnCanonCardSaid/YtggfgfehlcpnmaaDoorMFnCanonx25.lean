/- FnCanon: part 26 of 26 of my texts for this claim, joined; the theorem stands in the last. Conditions: none beyond the statement's. -/
import Derived.Test.YtggfgfehlcpnmaaDoorMFnCanonx24
import Derived.Test.YtggfgfehlcpnmaaDoorMFnCanonx23
import Derived.SizedLaws
import Derived.ChangeSlices
import Derived.Test.YtggfgfehlcpnmaaDoorCards
import Derived.Test.YtggfgfehlcpnmaaDoorTie
import Derived.Deep.DeepHandedRow
import Derived.WalkKit
import Derived.ProofKit
import Derived.OpenShut
import Derived.ShutString
import Derived.ChangeOld
import Derived.Below
-- PureFnCanon
/- 'laws.FnCanon' returns true at every bytes. Conditions: the bytes are bytes. -/
namespace Go.Proofs.YtggfgfehlcpnmaaDoor.Pure
open Go.RowKit Go.Proofs.YtggfgfehlcpnmaaDoor.P Go.Proofs.YtggfgfehlcpnmaaDoorW.PrintWords Go.Proofs.YtggfgfehlcpnmaaDoorW.PrintLast
set_option linter.unusedVariables false
set_option linter.unusedSimpArgs false
def compR (a b : ByteArray) : Int × Bool := if goodL a.data.toList = true then (if goodL b.data.toList = true then (ordL a.data.toList b.data.toList, true) else (0, false)) else (0, false)
theorem canon_spec (a b : ByteArray) (ha : a.size ≤ 1048576) (hb : b.size ≤ 1048576) : Ev (fun k => spec_CompareNames.f k a b) (compR a b) := by
  unfold compR
  refine Ev.congr (fun k => rfl) (Ev.bind (specGood_ev a (by omega)) ?_)
  by_cases h : goodL a.data.toList = true
  · simp only [if_pos h]
    refine Ev.bind (specGood_ev b (by omega)) ?_
    by_cases h' : goodL b.data.toList = true
    · simp only [if_pos h']; exact Ev.bind (specComp_ev a b ha hb h h') (Ev.now _)
    · simp only [if_neg h']; exact Ev.now _
  · simp only [if_neg h]; exact Ev.now _
theorem canon_impl (a b : ByteArray) (ha : a.size ≤ 1048576) (hb : b.size ≤ 1048576) : Ev (fun k => impl_CompareNames.f k a b) (compR a b) := by
  unfold compR
  refine Ev.congr (fun k => rfl) (Ev.bind (Ev.now (goodL a.data.toList)) ?_)
  by_cases h : goodL a.data.toList = true
  · simp only [if_pos h]
    refine Ev.bind (Ev.now (goodL b.data.toList)) ?_
    by_cases h' : goodL b.data.toList = true
    · simp only [if_pos h']; exact Ev.bind (implComp_ev a b ha hb) (Ev.now _)
    · simp only [if_neg h']; exact Ev.now _
  · simp only [if_neg h]; exact Ev.now _
theorem canon_below (a b : ByteArray) (ga : goodL a.data.toList = true) (gb : goodL b.data.toList = true) : impl_IsBelow.f a b = some (belowL a.data.toList b.data.toList, true) := by
  have h1 := good_size ga
  have h2 := good_size gb
  rw [← size_len] at h1 h2
  unfold impl_IsBelow.f impl_GoodName.f
  rw [Option.bind_some, if_pos ga, Option.bind_some, if_pos gb, implBelow_eq a b (by omega) (by omega)]
  rfl
theorem sameT_ev (l : List ByteArray) (hl : l.length ≤ 100000) : Ev (fun k => laws_sameTexts.f k l l) true := by
  have loop : ∀ (m i : Nat), i + m = l.length → Ev (fun k => laws_sameTexts.l0 k l l (l.length : Int) (i : Int)) true := by
    intro m
    induction m with
    | zero =>
      intro i him
      refine Ev.step (f := fun _ => some true) (fun k => ?_) (Ev.now _)
      show laws_sameTexts.l0 (k + 1) l l (l.length : Int) (i : Int) = _
      unfold laws_sameTexts.l0
      rw [if_neg (by omega)]
    | succ m ih =>
      intro i him
      refine Ev.step (fun k => ?_) (ih (i + 1) (by omega))
      show laws_sameTexts.l0 (k + 1) l l (l.length : Int) (i : Int) = _
      conv => lhs; unfold laws_sameTexts.l0
      rw [if_pos (by omega), if_pos (by omega), if_pos (by omega), if_pos (by omega), if_pos rfl, w64n (by omega)]
  exact Ev.congr (fun k => by unfold laws_sameTexts.f; rw [if_pos rfl]; rfl) (loop l.length 0 (by omega))
theorem cn_drop (L : List ByteArray) (i t : Nat) (h : i + t < L.length) : rdOf ByteArray.empty (L.drop i) (t : Int) = L[i + t] := by
  rw [rd_arr (L.drop i) t (by rw [List.length_drop]; omega), List.getElem_drop]
section
variable (S : List (List UInt8)) (hS : S.length ≤ 1000) (hr : Rising S) (hg : ∀ x ∈ S, goodL x = true)
include hS hr hg
theorem canon_l1 (i : Nat) (hi : i < S.length) (hnext : Ev (fun k => laws_FnCanon.l0 k (S.map mkB) (S.length : Int) ((i + 1 : Nat) : Int)) true) : ∀ (m t : Nat) (ended : Bool), i + t + m = S.length →
    (ended = true → ∀ j (hj : j < S.length), i + t ≤ j → belowL S[j] S[i] = false) →
    Ev (fun k => laws_FnCanon.l1 k (S.map mkB) (i : Int) ended (S.length : Int) (i : Int) ((S.map mkB).drop i) (((S.map mkB).drop i).length : Int) (t : Int)) true
  | 0, t, ended, hm, he => by
    refine Ev.step (fun k => ?_) hnext
    show laws_FnCanon.l1 (k + 1) (S.map mkB) (i : Int) ended (S.length : Int) (i : Int) ((S.map mkB).drop i) (((S.map mkB).drop i).length : Int) (t : Int) = _
    conv => lhs; unfold laws_FnCanon.l1
    rw [if_neg (by rw [List.length_drop, List.length_map]; omega), w64n (by omega)]
  | m + 1, t, ended, hm, he => by
    have hlen : ((S.map mkB).drop i).length = S.length - i := by rw [List.length_drop, List.length_map]
    have hit : i + t < S.length := by omega
    have e1 : rdOf ByteArray.empty ((S.map mkB).drop i) (t : Int) = mkB S[i + t] := by
      rw [cn_drop _ i t (by rw [List.length_map]; exact hit)]
      simp
    have e2 : rdOf ByteArray.empty (S.map mkB) (i : Int) = mkB S[i] := sn_rd S i hi
    have hb := canon_below (mkB S[i + t]) (mkB S[i]) (by rw [mkB_data]; exact hg _ (List.getElem_mem hit)) (by rw [mkB_data]; exact hg _ (List.getElem_mem hi))
    rw [mkB_data, mkB_data] at hb
    have hstep : ∀ k, laws_FnCanon.l1 (k + 1) (S.map mkB) (i : Int) ended (S.length : Int) (i : Int) ((S.map mkB).drop i) (((S.map mkB).drop i).length : Int) (t : Int) = (if belowL S[i + t] S[i] = true then (if ended = true then (some false) else (laws_FnCanon.l1 k (S.map mkB) (i : Int) (!belowL S[i + t] S[i]) (S.length : Int) (i : Int) ((S.map mkB).drop i) (((S.map mkB).drop i).length : Int) ((t + 1 : Nat) : Int))) else (if ended = true then (laws_FnCanon.l1 k (S.map mkB) (i : Int) true (S.length : Int) (i : Int) ((S.map mkB).drop i) (((S.map mkB).drop i).length : Int) ((t + 1 : Nat) : Int)) else (laws_FnCanon.l1 k (S.map mkB) (i : Int) (!belowL S[i + t] S[i]) (S.length : Int) (i : Int) ((S.map mkB).drop i) (((S.map mkB).drop i).length : Int) ((t + 1 : Nat) : Int)))) := fun k => by
      conv => lhs; unfold laws_FnCanon.l1
      rw [if_pos (by omega), if_pos (by omega), if_pos (by omega), if_pos (by omega), if_pos (by rw [List.length_map]; omega), e1, e2, hb, Option.bind_some, w64n (by omega)]
      simp only [if_true]
    cases hbel : belowL S[i + t] S[i] with
    | true =>
      have hen : ended = false := by
        rw [Bool.eq_false_iff]
        intro h
        rw [he h (i + t) hit (Nat.le_refl _)] at hbel
        cases hbel
      subst hen
      refine Ev.step hstep ?_
      simp only [hbel, if_true, Bool.false_eq_true, if_false, Bool.not_true]
      exact canon_l1 i hi hnext m (t + 1) false (by omega) (fun h => by cases h)
    | false =>
      have hlow : ∀ j (hj : j < S.length), i + (t + 1) ≤ j → belowL S[j] S[i] = false := by
        intro j hj hij
        rw [Bool.eq_false_iff]
        intro h
        have hp := List.pairwise_iff_getElem.1 hr
        have a1 : S[i] = S[i + t] ∨ ordL S[i] S[i + t] < 0 := by
          by_cases h0 : t = 0
          · subst h0; exact .inl rfl
          · exact .inr (hp i (i + t) hi hit (by omega))
        rw [bel_mid h a1 (.inr (hp (i + t) j hit hj (by omega)))] at hbel
        cases hbel
      refine Ev.step hstep ?_
      have := canon_l1 i hi hnext m (t + 1) true (by omega) (fun _ => hlow)
      cases ended with
      | true =>
        simp only [hbel, if_true, Bool.false_eq_true, if_false]
        exact this
      | false =>
        simp only [hbel, Bool.false_eq_true, if_false, Bool.not_false]
        exact this
theorem canon_l0 : ∀ (m i : Nat), i + m = S.length → Ev (fun k => laws_FnCanon.l0 k (S.map mkB) (S.length : Int) (i : Int)) true
  | 0, i, him => by
    refine Ev.step (f := fun _ => some true) (fun k => ?_) (Ev.now _)
    show laws_FnCanon.l0 (k + 1) (S.map mkB) (S.length : Int) (i : Int) = _
    conv => lhs; unfold laws_FnCanon.l0
    rw [if_neg (by omega)]
  | m + 1, i, him => by
    have hi : i < S.length := by omega
    have hnext := canon_l0 m (i + 1) (by omega)
    have h4 : Ev (fun k => laws_FnCanon.j4 k (S.map mkB) (i : Int) (S.length : Int) (i : Int)) true := by
      refine Ev.step (f := fun k => laws_FnCanon.l1 k (S.map mkB) (i : Int) false (S.length : Int) (i : Int) ((S.map mkB).drop i) (((S.map mkB).drop i).length : Int) ((0 : Nat) : Int)) (fun k => ?_) (canon_l1 S hS hr hg i hi hnext (S.length - i) 0 false (by omega) (fun h => by cases h))
      show laws_FnCanon.j4 (k + 1) (S.map mkB) (i : Int) (S.length : Int) (i : Int) = _
      conv => lhs; unfold laws_FnCanon.j4
      rw [if_pos (by omega), if_pos (by rw [List.length_map]; omega), Option.bind_some, Int.toNat_natCast]
      rfl
    by_cases h0 : i = 0
    · subst h0
      refine Ev.step (fun k => ?_) h4
      show laws_FnCanon.l0 (k + 1) (S.map mkB) (S.length : Int) ((0 : Nat) : Int) = _
      conv => lhs; unfold laws_FnCanon.l0
      rw [if_pos (by omega), if_neg (by omega)]
    · have hw : wrap64 ((i : Int) - 1) = ((i - 1 : Nat) : Int) := by unfold wrap64; omega
      have g1 := hg _ (List.getElem_mem (show i - 1 < S.length by omega))
      have g2 := hg _ (List.getElem_mem hi)
      have s1 := good_size g1
      have s2 := good_size g2
      have hlt : ordL S[i - 1] S[i] < 0 := List.pairwise_iff_getElem.1 hr (i - 1) i (by omega) hi (by omega)
      have hm1 : ordL S[i - 1] S[i] = -1 := by have := ord_range S[i - 1] S[i]; omega
      have hc := canon_impl (mkB S[i - 1]) (mkB S[i]) (by rw [mkB_size]; omega) (by rw [mkB_size]; omega)
      have ec : compR (mkB S[i - 1]) (mkB S[i]) = (-1, true) := by unfold compR; rw [mkB_data, mkB_data, if_pos g1, if_pos g2, hm1]
      rw [ec] at hc
      refine Ev.step (f := fun k => (impl_CompareNames.f k (mkB S[i - 1]) (mkB S[i])).bind fun bt374 => (if bt374.2 = true then (if bt374.1 = (-1) then (laws_FnCanon.j4 k (S.map mkB) (i : Int) (S.length : Int) (i : Int)) else (some false)) else (some false))) (fun k => ?_) (Ev.bind hc ?_)
      · show laws_FnCanon.l0 (k + 1) (S.map mkB) (S.length : Int) (i : Int) = _
        conv => lhs; unfold laws_FnCanon.l0
        rw [if_pos (by omega), if_pos (by omega), hw, if_pos (by omega), if_pos (by rw [List.length_map]; omega), if_pos (by omega), if_pos (by rw [List.length_map]; omega), sn_rd S (i - 1) (by omega), sn_rd S i hi]
      · simp only [if_true]
        exact h4
end
theorem FnCanon : laws_FnCanon.Pure := by
  intro l0 l1 _ _ hw0 _ _ hw1
  suffices h : Ev (fun k => laws_FnCanon.f k l0 l1) true from h.rounds
  by_cases h : (wrap64 ((l0.length : Int) + (l1.length : Int))) > 1048576
  · exact Ev.congr (fun k => by unfold laws_FnCanon.f; rw [if_pos h]) (Ev.now true)
  · obtain ⟨a, b, e, ha, hb⟩ := below_draw (bytes_of hw0)
    have hd : Ev (fun k => spec_DrawCompareNames.f k l0) (a, b) := Ev.congr (fun k => rfl) (Ev.bind e (Ev.now _))
    obtain ⟨l, e2, hl, hx⟩ := sort_draw (bytes_of hw1)
    have es := specSort_ev l (by omega) (fun x hx' => by have := hx x hx'; omega)
    have ei : impl_SortNames.f l = some (sortR l) := rfl
    have hend : Ev (fun k => laws_FnCanon.j1 k l1) true := by
      refine Ev.step (fun k => rfl) (Ev.bind e2 ?_)
      simp only [ei, Option.bind_some]
      refine Ev.bind es ?_
      have hlen := sortR_len l
      simp only [bne_self_eq_false, Bool.false_eq_true, if_false]
      refine Ev.bind (sameT_ev (sortR l).1 (by omega)) ?_
      refine Ev.step (f := fun k => laws_FnCanon.l0 k (sortR l).1 ((sortR l).1.length : Int) 0) (fun k => rfl) ?_
      by_cases hc : (decide (l.length ≤ 60) && l.all fun x => goodL x.data.toList) = true
      · have er : sortR l = ((sortL (l.map (·.data.toList))).map mkB, true) := by unfold sortR; rw [if_pos hc]
        rw [er] at hlen ⊢
        rw [List.length_map] at hlen
        have := canon_l0 (sortL (l.map (·.data.toList))) (by omega) (sortL_sorted _) (fun x hx => by
          rw [sortL_mem] at hx
          obtain ⟨z, hz, rfl⟩ := List.mem_map.1 hx
          simp only [Bool.and_eq_true, List.all_eq_true] at hc
          exact hc.2 z hz) _ 0 (Nat.zero_add _)
        simp only [List.length_map]
        exact this
      · have er : sortR l = ([], false) := by unfold sortR; rw [if_neg hc]
        rw [er]
        exact Ev.step (f := fun _ => some true) (fun k => rfl) (Ev.now _)
    refine Ev.congr (fun k => by unfold laws_FnCanon.f; rw [if_neg h]) (Ev.bind hd (Ev.bind (canon_impl a b (by omega) (by omega)) (Ev.bind (canon_spec a b (by omega) (by omega)) ?_)))
    simp only [bne_self_eq_false, Bool.false_eq_true, if_false]
    by_cases hg : goodL a.data.toList = true ∧ goodL b.data.toList = true
    · have ec : compR a b = (ordL a.data.toList b.data.toList, true) := by unfold compR; rw [if_pos hg.1, if_pos hg.2]
      have ec2 : compR b a = (ordL b.data.toList a.data.toList, true) := by unfold compR; rw [if_pos hg.2, if_pos hg.1]
      have hc2 := canon_impl b a (by omega) (by omega)
      rw [ec2] at hc2
      have hbl := canon_below a b hg.1 hg.2
      have hng := ord_neg a.data.toList b.data.toList
      have hrg := ord_range a.data.toList b.data.toList
      have hwr : wrap64 (-(ordL a.data.toList b.data.toList)) = ordL b.data.toList a.data.toList := by unfold wrap64; omega
      have heq : ((ordL a.data.toList b.data.toList == 0) != (a.toList == b.toList)) = false := by
        rw [Lib.toList_data, Lib.toList_data]
        by_cases h0 : a.data.toList = b.data.toList
        · rw [(ord_zero _ _).2 h0, h0]; simp
        · have : ordL a.data.toList b.data.toList ≠ 0 := fun h1 => h0 ((ord_zero _ _).1 h1)
          rw [show (ordL a.data.toList b.data.toList == 0) = false from beq_eq_false_iff_ne.mpr this, show (a.data.toList == b.data.toList) = false from beq_eq_false_iff_ne.mpr h0]
          rfl
      rw [ec]
      refine Ev.step (f := fun k => (impl_CompareNames.f k b a).bind fun bt356 => ((impl_IsBelow.f a b).bind fun bt358 => (if bt356.2 = true then (if bt356.1 = (wrap64 (-(ordL a.data.toList b.data.toList))) then (if ((ordL a.data.toList b.data.toList == 0) != (a.toList == b.toList)) = true then (some false) else (if bt358.2 = true then (if bt358.1 = true then (if ordL a.data.toList b.data.toList < 0 then (some false) else (laws_FnCanon.j1 k l1)) else (laws_FnCanon.j1 k l1)) else (some false))) else (some false)) else (some false)))) (fun k => rfl) (Ev.bind hc2 ?_)
      simp only [hbl, Option.bind_some, if_true, hwr, heq, Bool.false_eq_true, if_false]
      cases hb2 : belowL a.data.toList b.data.toList with
      | true =>
        simp only [if_true, if_neg (bel_ord hb2)]
        exact hend
      | false =>
        simp only [Bool.false_eq_true, if_false]
        exact hend
    · have ec : compR a b = (0, false) := by
        unfold compR
        by_cases h1 : goodL a.data.toList = true
        · rw [if_pos h1, if_neg (fun h2 => hg ⟨h1, h2⟩)]
        · rw [if_neg h1]
      rw [ec]
      exact Ev.step (f := fun k => laws_FnCanon.j1 k l1) (fun k => rfl) hend
end Go.Proofs.YtggfgfehlcpnmaaDoor.Pure

-- WSized
-- PRINTED BY print.sh 35421559b90ae4d0a3588c463048766b98c2df88dd9212a6774a882060cdf62d: not written by this session
-- PRINTED WORDS (module Derived/Print/Sized.lean): go-gate-2's, for the rows of laws over slices: an AI agent of Go's test side, Tue Nov 17 2026; no person has read it. Lean checks it.
namespace Go.Proofs.YtggfgfehlcpnmaaDoorW.PrintWords
open Go.ChangeShapes Go.WideShapes
/-- A row's slice of whole numbers is no longer than its weight allows. -/
theorem sized_ints {H : Type} {enc : TypeId × Value → H} {P : Program} {W : World} {base : Nat} {spare : Nat → Bool} {held : Bool} {t e : TypeId} {k : IntKind} {a : Option Addr} {len cap : Nat} {d : DataW H} {ps : List MemPlace} {ts : List TypeId} {ds : List (DataW H)} {j : Nat}
    (hsz : (DataW.weightsEach P ts ds).all (· ≤ reachBytes) = true) (ht : ts[j]? = some t) (hd : ds[j]? = some d) (hu : P.underlying t = some (.slice e)) (he : P.underlying e = some (.int k)) (hc : P.cellsOf e = 1) {B : Nat} (hB : P.bytesOf e = B)
    (h : DataW.Trod enc P W base spare held t (.slice a len cap) d ps) : len * B ≤ 140737488351232 := by
  obtain ⟨fuel, hf⟩ := h
  rcases open_ints hu he hc hf with ⟨hcs, _⟩ | ⟨x, l, c, zs, hcs, _, hl, _, hz, hx, _, _⟩
  · simp [Value.cells] at hcs
    obtain ⟨rfl, rfl, rfl⟩ := hcs
    simp
  · simp [Value.cells] at hcs
    obtain ⟨rfl, rfl, rfl⟩ := hcs
    obtain ⟨hx, _⟩ := Prod.mk.inj hx
    subst hx
    have z := sized_slice hsz ht hd hu
    rw [hB] at z
    have hl2 : len ≤ zs.length := by
      rw [hz]
      split
      · exact hl
      · exact Nat.le_refl _
    have h1 : (lits (H := H) k (zs.take len)).length + (lits (H := H) k (zs.drop len)).length = zs.length := by
      simp [lits]
      omega
    rw [h1] at z
    exact Nat.le_trans (Nat.mul_le_mul_right _ hl2) z
end Go.Proofs.YtggfgfehlcpnmaaDoorW.PrintWords

-- LawFnCanon
-- By my own call of the kit's print (wip/tools/pp.py), turned to a card by wip/tools/doorrow.py.
namespace Go.Proofs.YtggfgfehlcpnmaaDoor.fnCanon
open Go.ChangeShapes Go.WideShapes Go.ChangeAt Go.RowKit
open Go.ChangeMaps (open_string shut_string)
set_option linter.unusedVariables false
theorem own : ownKnob Tryd.prog.godebug = none := by kernel_rfl
theorem laidOut : laidOutB Tryd.prog = true := by kernel_rfl
def IsRow (k : IntKind) (w : World) (a : Option Addr) (len cap : Nat) (zs : List Int) : Prop :=
  (a = none ∧ len = 0 ∧ cap = 0 ∧ zs = []) ∨
  ∃ x, a = some x ∧ len ≤ cap ∧ cap ≤ maxLen ∧ zs.length = cap ∧ (∀ i, i < zs.length → w.cell? (x.add i) = some (.int k (zs.getD i 0))) ∧ ∀ n ∈ zs, (Lit.int k n).wf = true
/-- A world for the witness: the settled one, the listed tables holding what the row lists. -/
noncomputable def laidWorld (os : Os) : World :=
  { World.holding Tryd.prog os ⟨#[], #[], []⟩ with heap := (((World.holding Tryd.prog os ⟨#[], #[], []⟩).heap.modify 2 fun
      | .cells _ t frozen => .cells #[.int .u8 128, .int .u8 191, .int .u8 160, .int .u8 191, .int .u8 128, .int .u8 159, .int .u8 144, .int .u8 191, .int .u8 128, .int .u8 143, .int .u8 0, .int .u8 0, .int .u8 0, .int .u8 0, .int .u8 0, .int .u8 0, .int .u8 0, .int .u8 0, .int .u8 0, .int .u8 0, .int .u8 0, .int .u8 0, .int .u8 0, .int .u8 0, .int .u8 0, .int .u8 0, .int .u8 0, .int .u8 0, .int .u8 0, .int .u8 0, .int .u8 0, .int .u8 0] t frozen
      | o => o).modify 1 fun
      | .cells _ t frozen => .cells #[.int .u8 240, .int .u8 240, .int .u8 240, .int .u8 240, .int .u8 240, .int .u8 240, .int .u8 240, .int .u8 240, .int .u8 240, .int .u8 240, .int .u8 240, .int .u8 240, .int .u8 240, .int .u8 240, .int .u8 240, .int .u8 240, .int .u8 240, .int .u8 240, .int .u8 240, .int .u8 240, .int .u8 240, .int .u8 240, .int .u8 240, .int .u8 240, .int .u8 240, .int .u8 240, .int .u8 240, .int .u8 240, .int .u8 240, .int .u8 240, .int .u8 240, .int .u8 240, .int .u8 240, .int .u8 240, .int .u8 240, .int .u8 240, .int .u8 240, .int .u8 240, .int .u8 240, .int .u8 240, .int .u8 240, .int .u8 240, .int .u8 240, .int .u8 240, .int .u8 240, .int .u8 240, .int .u8 240, .int .u8 240, .int .u8 240, .int .u8 240, .int .u8 240, .int .u8 240, .int .u8 240, .int .u8 240, .int .u8 240, .int .u8 240, .int .u8 240, .int .u8 240, .int .u8 240, .int .u8 240, .int .u8 240, .int .u8 240, .int .u8 240, .int .u8 240, .int .u8 240, .int .u8 240, .int .u8 240, .int .u8 240, .int .u8 240, .int .u8 240, .int .u8 240, .int .u8 240, .int .u8 240, .int .u8 240, .int .u8 240, .int .u8 240, .int .u8 240, .int .u8 240, .int .u8 240, .int .u8 240, .int .u8 240, .int .u8 240, .int .u8 240, .int .u8 240, .int .u8 240, .int .u8 240, .int .u8 240, .int .u8 240, .int .u8 240, .int .u8 240, .int .u8 240, .int .u8 240, .int .u8 240, .int .u8 240, .int .u8 240, .int .u8 240, .int .u8 240, .int .u8 240, .int .u8 240, .int .u8 240, .int .u8 240, .int .u8 240, .int .u8 240, .int .u8 240, .int .u8 240, .int .u8 240, .int .u8 240, .int .u8 240, .int .u8 240, .int .u8 240, .int .u8 240, .int .u8 240, .int .u8 240, .int .u8 240, .int .u8 240, .int .u8 240, .int .u8 240, .int .u8 240, .int .u8 240, .int .u8 240, .int .u8 240, .int .u8 240, .int .u8 240, .int .u8 240, .int .u8 240, .int .u8 240, .int .u8 240, .int .u8 240, .int .u8 241, .int .u8 241, .int .u8 241, .int .u8 241, .int .u8 241, .int .u8 241, .int .u8 241, .int .u8 241, .int .u8 241, .int .u8 241, .int .u8 241, .int .u8 241, .int .u8 241, .int .u8 241, .int .u8 241, .int .u8 241, .int .u8 241, .int .u8 241, .int .u8 241, .int .u8 241, .int .u8 241, .int .u8 241, .int .u8 241, .int .u8 241, .int .u8 241, .int .u8 241, .int .u8 241, .int .u8 241, .int .u8 241, .int .u8 241, .int .u8 241, .int .u8 241, .int .u8 241, .int .u8 241, .int .u8 241, .int .u8 241, .int .u8 241, .int .u8 241, .int .u8 241, .int .u8 241, .int .u8 241, .int .u8 241, .int .u8 241, .int .u8 241, .int .u8 241, .int .u8 241, .int .u8 241, .int .u8 241, .int .u8 241, .int .u8 241, .int .u8 241, .int .u8 241, .int .u8 241, .int .u8 241, .int .u8 241, .int .u8 241, .int .u8 241, .int .u8 241, .int .u8 241, .int .u8 241, .int .u8 241, .int .u8 241, .int .u8 241, .int .u8 241, .int .u8 241, .int .u8 241, .int .u8 2, .int .u8 2, .int .u8 2, .int .u8 2, .int .u8 2, .int .u8 2, .int .u8 2, .int .u8 2, .int .u8 2, .int .u8 2, .int .u8 2, .int .u8 2, .int .u8 2, .int .u8 2, .int .u8 2, .int .u8 2, .int .u8 2, .int .u8 2, .int .u8 2, .int .u8 2, .int .u8 2, .int .u8 2, .int .u8 2, .int .u8 2, .int .u8 2, .int .u8 2, .int .u8 2, .int .u8 2, .int .u8 2, .int .u8 2, .int .u8 19, .int .u8 3, .int .u8 3, .int .u8 3, .int .u8 3, .int .u8 3, .int .u8 3, .int .u8 3, .int .u8 3, .int .u8 3, .int .u8 3, .int .u8 3, .int .u8 3, .int .u8 35, .int .u8 3, .int .u8 3, .int .u8 52, .int .u8 4, .int .u8 4, .int .u8 4, .int .u8 68, .int .u8 241, .int .u8 241, .int .u8 241, .int .u8 241, .int .u8 241, .int .u8 241, .int .u8 241, .int .u8 241, .int .u8 241, .int .u8 241, .int .u8 241] t frozen
      | o => o) }
set_option maxRecDepth 100000 in
theorem laid_met (os : Os) : laidMet Tryd.prog Rows.fnCanonRow.laid ((laidWorld os).forCall (fun _ _ => 0) ⟨#[], #[.slice none 0 0, .slice none 0 0], []⟩).memory :=
  laidMet_of_run' 8 (by kernel_rfl) (by kernel_rfl)
set_option maxRecDepth 100000 in
theorem contract (H : Type) (enc : TypeId × Value → H) (W : World) (base : Nat) (args : Array Value) (ds gs : List (DataW H)) (before : List MemPlace)
    (hval0 : ∀ (j : Nat) t v, Tryd.f4.params[j]? = some t → args[j]? = some v → Value.okWide Tryd.prog W .any base t v)
    (hW : DataW.Whole enc Tryd.prog Tryd.f4.params.toList Rows.fnCanonSpec.vars false W args.toList ds gs before)
    (hsz0 : (DataW.weightsEach Tryd.prog (Tryd.f4.params.toList ++ Rows.fnCanonSpec.plain.varTypes Tryd.prog) (ds ++ gs)).all (· ≤ reachBytes) = true) :
    Calls Tryd.prog 4 args W fun e W' => ∃ v, e = .returned v ∧ Rows.fnCanonSpec.post enc Tryd.prog Tryd.f4 false true false false W args v W' := by
  have hsz : (DataW.weightsEach Tryd.prog (Tryd.f4.params.toList ++ Rows.fnCanonSpec.plain.varTypes Tryd.prog) (ds ++ gs)).all (· ≤ reachBytes) = true := hsz0
  have hval : ∀ (j : Nat) t v, Tryd.f4.params[j]? = some t → args[j]? = some v → Value.okWide Tryd.prog W .any base t v := hval0
  have hW' := hW
  obtain ⟨p, q, hA0, hV, rfl, hfz, hnd⟩ := hW
  have hA : DataW.TrodAll enc Tryd.prog W 0 (fun _ => true) true Tryd.f4.params.toList args.toList ds p := hA0
  rw [Tryd.params4] at hA hval hsz
  obtain ⟨v0, vs0, d0, ds0, p0, q0, hargs, rfl, rfl, h0, r0⟩ := trodAll_cons hA
  obtain ⟨v1, vs1, d1, ds1, p1, q1, rfl, rfl, rfl, h1, r1⟩ := trodAll_cons r0
  obtain ⟨rfl, rfl, rfl⟩ := trodAll_nil r1
  obtain rfl : args = #[v0, v1] := by cases args; simp_all
  obtain ⟨rfl, rfl⟩ := trodVars_none hV
  obtain ⟨a0, len0, cap0, rfl⟩ := okWide_slice Tryd.underlying29 (hval 0 29 v0 rfl rfl)
  have k0 := h0
  have lt0 : ∀ x ∈ p0, x.block < W.heap.size := by obtain ⟨m, hm⟩ := k0; exact DataW.trod_lt m _ _ _ hm
  obtain ⟨z0, w0⟩ : ∃ zs, IsRow .u8 W a0 len0 cap0 zs := by
    obtain ⟨fuel, hf⟩ := h0
    rcases open_ints Tryd.underlying29 Tryd.underlying5 (by kernel_rfl) hf with ⟨hcs, _⟩ | ⟨x, l, c, zs, hcs, _, hl, hm, hz, _, hcell, hwz⟩
    · simp [Value.cells] at hcs
      obtain ⟨rfl, rfl, rfl⟩ := hcs
      exact ⟨[], .inl ⟨rfl, rfl, rfl, rfl⟩⟩
    · simp [Value.cells] at hcs
      obtain ⟨rfl, rfl, rfl⟩ := hcs
      exact ⟨zs, .inr ⟨_, rfl, hl, hm, by simpa using hz, hcell, hwz⟩⟩
  have y0 : len0 * 1 ≤ 140737488351232 := Go.Proofs.YtggfgfehlcpnmaaDoorW.PrintWords.sized_ints hsz (j := 0) (t := 29) rfl rfl Tryd.underlying29 Tryd.underlying5 (by kernel_rfl) (by kernel_rfl) h0
  obtain ⟨a1, len1, cap1, rfl⟩ := okWide_slice Tryd.underlying29 (hval 1 29 v1 rfl rfl)
  have k1 := h1
  have lt1 : ∀ x ∈ p1, x.block < W.heap.size := by obtain ⟨m, hm⟩ := k1; exact DataW.trod_lt m _ _ _ hm
  obtain ⟨z1, w1⟩ : ∃ zs, IsRow .u8 W a1 len1 cap1 zs := by
    obtain ⟨fuel, hf⟩ := h1
    rcases open_ints Tryd.underlying29 Tryd.underlying5 (by kernel_rfl) hf with ⟨hcs, _⟩ | ⟨x, l, c, zs, hcs, _, hl, hm, hz, _, hcell, hwz⟩
    · simp [Value.cells] at hcs
      obtain ⟨rfl, rfl, rfl⟩ := hcs
      exact ⟨[], .inl ⟨rfl, rfl, rfl, rfl⟩⟩
    · simp [Value.cells] at hcs
      obtain ⟨rfl, rfl, rfl⟩ := hcs
      exact ⟨zs, .inr ⟨_, rfl, hl, hm, by simpa using hz, hcell, hwz⟩⟩
  have y1 : len1 * 1 ≤ 140737488351232 := Go.Proofs.YtggfgfehlcpnmaaDoorW.PrintWords.sized_ints hsz (j := 1) (t := 29) rfl rfl Tryd.underlying29 Tryd.underlying5 (by kernel_rfl) (by kernel_rfl) h1
  clear hA0 hval0 hsz0 hsz
  refine (P.laws_FnCanon.walk Pure.FnCanon a0 len0 cap0 z0 a1 len1 cap1 z1 W w0 y0 w1 y1).mono fun e W' ⟨he, bel⟩ => ?_
  subst he
  exact ⟨_, rfl, _, _, _, [], _, [], hW', trodAll_mk1 (shut_bool Tryd.underlying4 _), (trodAll_cons_mk (Below.trod laidOut (by kernel_rfl) (of_decide_eq_true (by kernel_rfl)) k0 bel lt0) (trodAll_cons_mk (Below.trod laidOut (by kernel_rfl) (of_decide_eq_true (by kernel_rfl)) k1 bel lt1) trodAll_mk0)), rfl, bel.frame _, fun h => by cases h⟩

set_option maxRecDepth 100000 in
theorem reads (os : Os) {H : Type} (enc : TypeId × Value → H) : ∃ places, DataW.whole enc Tryd.prog ((laidWorld os).forCall (fun _ _ => 0) ⟨#[], #[.slice none 0 0, .slice none 0 0], []⟩).memory Tryd.f4.params.toList Rows.fnCanonSpec.vars false (#[.slice none 0 0, .slice none 0 0] : Array Value).toList 8 = some ([.nil, .nil], [], places) :=
  ⟨[], by kernel_rfl⟩
set_option maxRecDepth 100000 in
theorem lifted (os : Os) (started : os.Started) (H : Type) (enc : TypeId × Value → H) (F : Stop.Interp) :
    ReturnsInHanded {} Tryd.checked os 4 .any ((OpenSpec.ofChange Rows.fnCanonSpec).preRow enc Tryd.prog Tryd.f4 Rows.fnCanonRow.domain false Rows.fnCanonRow.laid) (((OpenSpec.ofChange Rows.fnCanonSpec).at F).post enc Tryd.prog Tryd.f4 false true false false) := by
  obtain ⟨places, hx⟩ := reads os enc
  refine returnsInHanded_of_row (C := Tryd.checked) (s := OpenSpec.ofChange Rows.fnCanonSpec) own started (by kernel_rfl) Tryd.func4
    (witness_row_at (enc := enc) (C := Tryd.checked) false (laidWorld os) #[.slice none 0 0, .slice none 0 0] rfl (by kernel_rfl) (by kernel_rfl) (by kernel_rfl)
      (OpenSpec.preRow_of_cond 8 hx (by kernel_rfl) (fun k hk => by cases hk) (by kernel_rfl) (laid_met os))) ?_
  intro W base args ds gs before hval hW _ _ hsz hL _ _
  exact contract H enc W base args ds gs before hval hW hsz
theorem said : Rows.FnCanonSaid :=
  OpenClaim.holds_of_cond 4 Tryd.f4 rfl rfl rfl rfl rfl rfl rfl ⟨rfl, rfl, rfl, rfl, rfl⟩ rfl rfl rfl rfl rfl (by kernel_rfl) Tryd.func4 (by kernel_rfl)
    (of_decide_eq_true (by kernel_rfl)) (by unfold Func.isWrapper; first | (rw [if_pos (by decide +kernel)]; kernel_rfl) | (rw [if_neg (by decide +kernel)]; exact ⟨rfl, rfl⟩))
    (fun os started H enc _ F => by rw [OpenClaim.pre_eq_preRow]; exact lifted os started H enc F)
theorem wants : Tryd.f4.params.toList.all (fun t => Tryd.prog.wantsStandIn t == false) = true := by kernel_rfl
theorem plain (f : FuncId) (fn : Func) (hf : Tryd.pinned.checked.prog.funcNamed "loop.example/g00300/laws.FnCanon" = some f) (hfn : Tryd.pinned.checked.prog.funcs[f]? = some fn) :
    false = Tryd.pinned.checked.prog.looks [] ∧ ∀ (j : Nat) t, fn.params[j]? = some t → Tryd.pinned.checked.prog.wantsStandIn t = false := by
  obtain rfl : f = 4 := Option.some.inj ((show Tryd.prog.funcNamed "loop.example/g00300/laws.FnCanon" = some 4 by kernel_rfl).symm.trans hf) |>.symm
  obtain rfl : fn = Tryd.f4 := (Option.some.inj (Tryd.func4.symm.trans hfn)).symm
  refine ⟨by kernel_rfl, fun j t ht => ?_⟩
  exact eq_of_beq (List.all_eq_true.1 wants t (Array.mem_toList_iff.2 (Array.mem_of_getElem? ht)))
theorem proved : Rows.FnCanonCardSaid :=
  Claim7.holds_tied_plain_at .later [] _ _ _ _ said (fun _ h => by cases h) (by kernel_rfl) (fun _ h => by cases h) fnCanon_row_tie rfl ⟨rfl, rfl⟩ (by kernel_rfl) rfl plain (by kernel_rfl)
#print axioms proved
end Go.Proofs.YtggfgfehlcpnmaaDoor.fnCanon
namespace Go.Proofs.YtggfgfehlcpnmaaDoor
/-- The card, under a short name, for the claim. -/
theorem fnCanon_holds : Rows.FnCanonCardSaid := fnCanon.proved
end Go.Proofs.YtggfgfehlcpnmaaDoor
