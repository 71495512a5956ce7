/- FnCommon: part 21 of 22 of my texts for this claim, joined; the theorem stands in the last. Conditions: none beyond the statement's. -/
import Derived.Test.YtiipkjehlaenkaaDoorMFnCommonx19
import Derived.Test.YtiipkjehlaenkaaDoorMFnCommonx3
import Derived.Test.YtiipkjehlaenkaaDoorMFnCommonx5
import Derived.Test.YtiipkjehlaenkaaDoorMFnCommonx17
-- PureDraw
/- The drawn names: each draw answers, with a short text. Conditions: the bytes are bytes. -/
namespace Go.Proofs.YtiipkjehlaenkaaDoor.Pure
open Go.RowKit Go.Proofs.YtiipkjehlaenkaaDoor.P Go.Proofs.YtiipkjehlaenkaaDoorW.PrintWords Go.Proofs.YtiipkjehlaenkaaDoorW.PrintLast
set_option linter.unusedVariables false
set_option linter.unusedSimpArgs false

theorem of_some {l : List Int} (hl : Bytes l) {at_ sd : Int} {n : Nat} (hc : Cur at_ n) (hn : n < 4611686018427387000) (zs : List ByteArray) (hz : 0 < zs.length) :
    ∃ x at2 sd2, spec_l1Cur_of.f l at_ sd zs = some (x, at2, sd2) ∧ x ∈ zs ∧ Cur at2 (n + 2) := by
  unfold spec_l1Cur_of.f
  obtain ⟨i, at2, sd2, e, hi, hc2⟩ := pick_some hl hc (by omega) (sd := sd) (zs.length : Int)
  rw [e]
  simp only [Option.bind_some]
  have hlt : i < (zs.length : Int) := by omega
  rw [if_pos hi.1, if_pos hlt]
  refine ⟨_, _, _, rfl, ?_, hc2⟩
  have h2 : i.toNat < zs.length := by omega
  rw [rdOf, List.getD_eq_getElem?_getD, List.getElem?_eq_getElem h2]
  exact List.getElem_mem h2
theorem size_le {zs : List ByteArray} {n : Nat} (h : zs.all (fun x => decide (x.size ≤ n)) = true) {x : ByteArray} (hx : x ∈ zs) : x.size ≤ n := by
  have := List.all_eq_true.1 h x hx
  simpa using this
theorem name_loop {l : List Int} (hl : Bytes l) : ∀ (m : Nat) (at_ sd : Int) (n : Nat) (acc : ByteArray), Cur at_ n → n + 2 * m < 4611686018427387000 → acc.size + 4 * m ≤ 1000 → m ≤ 10 →
    ∃ s at2 sd2, spec_l1Cur_name.l0 (m + 1) acc (m : Int) l at_ sd = some (s, at2, sd2) ∧ s.size ≤ acc.size + 4 * m ∧ Cur at2 (n + 2 * m)
  | 0, at_, sd, n, acc, hc, hn, ha, hm => ⟨acc, at_, sd, by unfold spec_l1Cur_name.l0; rw [if_neg (by omega)], by omega, by simpa using hc⟩
  | m + 1, at_, sd, n, acc, hc, hn, ha, hm => by
    obtain ⟨x, at2, sd2, e, hx, hc2⟩ := of_some hl hc (by omega) (sd := sd) ([(⟨#[97]⟩ : ByteArray), (⟨#[98]⟩ : ByteArray), (⟨#[119, 119, 119]⟩ : ByteArray), (⟨#[115, 117, 98]⟩ : ByteArray), (⟨#[42]⟩ : ByteArray), (⟨#[120, 49]⟩ : ByteArray), (⟨#[110, 115]⟩ : ByteArray)] : List ByteArray) (by decide)
    have hsz : x.size ≤ 3 := size_le (by decide) hx
    have h46 : (⟨#[46]⟩ : ByteArray).size = 1 := rfl
    obtain ⟨s, at3, sd3, f, hs, hc3⟩ := name_loop hl m at2 sd2 (n + 2) ((x ++ (⟨#[46]⟩ : ByteArray)) ++ acc) hc2 (by omega) (by rw [ByteArray.size_append, ByteArray.size_append, h46]; omega) (by omega)
    refine ⟨s, at3, sd3, ?_, ?_, ?_⟩
    · conv => lhs; unfold spec_l1Cur_name.l0
      rw [if_pos (by omega), e, Option.bind_some]
      dsimp only
      rw [if_pos (by omega), if_pos (by rw [ByteArray.size_append, h46]; omega), show wrap64 (((m + 1 : Nat) : Int) - 1) = (m : Int) by unfold wrap64; omega]
      exact f
    · rw [ByteArray.size_append, ByteArray.size_append, h46] at hs
      omega
    · rw [show n + 2 * (m + 1) = n + 2 + 2 * m by omega]
      exact hc3
theorem name_some {l : List Int} (hl : Bytes l) {at_ sd : Int} {n : Nat} (hc : Cur at_ n) (hn : n < 4611686018427380000) :
    ∃ s at2 sd2, Ev (fun k => spec_l1Cur_name.f k l at_ sd) (s, at2, sd2) ∧ s.size ≤ 60 ∧ Cur at2 (n + 20) := by
  have up : ∀ {a : Int} {p q : Nat}, Cur a p → p ≤ q → Cur a q := fun h k => ⟨h.1, by have := h.2; omega⟩
  obtain ⟨i, at2, sd2, e, hi, hc2⟩ := pick_some hl hc (by omega) (sd := sd) 40
  by_cases h0 : i = 0
  · obtain ⟨x, at3, sd3, e3, hx, hc3⟩ := of_some hl hc2 (by omega) (sd := sd2) ([(⟨#[]⟩ : ByteArray), (⟨#[46]⟩ : ByteArray), (⟨#[97, 46, 46, 98]⟩ : ByteArray), (⟨#[65]⟩ : ByteArray), (⟨#[97, 46]⟩ : ByteArray), (⟨#[97, 42]⟩ : ByteArray), (⟨#[97, 46, 98, 46, 99, 46, 100, 46, 101, 46, 102, 46, 103, 46, 104]⟩ : ByteArray), (⟨#[97, 46, 98, 46, 99, 46, 100, 46, 101, 46, 102, 46, 103, 46, 104, 46, 105]⟩ : ByteArray), (⟨#[97, 98, 99, 100, 101, 102, 103, 104, 105, 106, 107, 108, 109, 110, 111, 112, 113, 114, 115, 116]⟩ : ByteArray), (⟨#[97, 98, 99, 100, 101, 102, 103, 104, 105, 106, 107, 108, 109, 110, 111, 112, 113, 114, 115, 116, 117]⟩ : ByteArray)] : List ByteArray) (by decide)
    refine ⟨x, at3, sd3, Ev.congr (fun k => ?_) (Ev.now _), size_le (by decide) hx, up hc3 (by omega)⟩
    unfold spec_l1Cur_name.f
    rw [e]
    simp only [Option.bind_some]
    rw [if_pos h0, e3]
    rfl
  · by_cases h1 : i = 1
    · obtain ⟨x, at3, sd3, e3, hx, hc3⟩ := of_some hl hc2 (by omega) (sd := sd2) ([(⟨#[]⟩ : ByteArray), (⟨#[99, 111, 109]⟩ : ByteArray)] : List ByteArray) (by decide)
      refine ⟨x, at3, sd3, Ev.congr (fun k => ?_) (Ev.now _), size_le (by decide) hx, up hc3 (by omega)⟩
      unfold spec_l1Cur_name.f
      rw [e]
      simp only [Option.bind_some]
      rw [if_neg h0, if_pos h1, e3]
      rfl
    · obtain ⟨x, at3, sd3, e3, hx, hc3⟩ := of_some hl hc2 (by omega) (sd := sd2) ([(⟨#[101, 120]⟩ : ByteArray), (⟨#[99, 111, 109]⟩ : ByteArray), (⟨#[101, 120, 46, 99, 111, 109]⟩ : ByteArray), (⟨#[101, 120, 46, 99, 111, 109]⟩ : ByteArray), (⟨#[101, 120, 46, 99, 111, 109]⟩ : ByteArray)] : List ByteArray) (by decide)
      have hsz : x.size ≤ 6 := size_le (by decide) hx
      obtain ⟨j, at4, sd4, e4, hj, hc4⟩ := pick_some hl hc3 (by omega) (sd := sd3) 3
      obtain ⟨m, rfl⟩ : ∃ m : Nat, j = (m : Int) := ⟨j.toNat, by omega⟩
      obtain ⟨s, at5, sd5, e5, hs, hc5⟩ := name_loop hl m at4 sd4 _ x hc4 (by omega) (by omega) (by omega)
      refine ⟨s, at5, sd5, Ev.of (fun k => spec_l1Cur_name.mono _ _ _ _) (k := m + 1) ?_, by omega, up hc5 (by omega)⟩
      unfold spec_l1Cur_name.f
      rw [e]
      simp only [Option.bind_some]
      rw [if_neg h0, if_neg h1, e3]
      simp only [Option.bind_some]
      rw [e4]
      simp only [Option.bind_some]
      exact e5
theorem below_draw {l : List Int} (hl : Bytes l) : ∃ a b, Ev (fun k => spec_DrawIsBelow.f k l) (a, b) ∧ a.size ≤ 60 ∧ b.size ≤ 60 := by
  obtain ⟨a, at2, sd2, e, ha, hc2⟩ := name_some hl (at_ := 0) (sd := 0) (n := 0) ⟨by omega, by omega⟩ (by omega)
  obtain ⟨i, at3, sd3, e3, hi, hc3⟩ := pick_some hl hc2 (by omega) (sd := sd2) 3
  have h3 : spec_l1Cur_one.f l at2 sd2 3 = some ((i == 0), at3, sd3) := by
    unfold spec_l1Cur_one.f
    rw [e3]
    rfl
  obtain ⟨b, at4, sd4, e4, hb, hc4⟩ := name_some hl hc3 (by omega) (sd := sd3)
  by_cases h0 : (i == 0) = true
  · refine ⟨a, mkB (parL a.data.toList), Ev.congr (fun k => rfl) (Ev.bind e ?_), ha, by rw [mkB_size]; have := parL_len a.data.toList; rw [← size_len] at this; omega⟩
    simp only [h3, Option.bind_some, if_pos h0]
    exact Ev.bind (specParent_ev a (by omega)) (Ev.now _)
  · refine ⟨a, b, Ev.congr (fun k => rfl) (Ev.bind e ?_), ha, hb⟩
    simp only [h3, Option.bind_some, if_neg h0]
    exact Ev.bind e4 (Ev.now _)
theorem common_draw {l : List Int} (hl : Bytes l) : ∃ a b, Ev (fun k => spec_DrawCommonOf.f k l) (a, b) ∧ a.size ≤ 60 ∧ b.size ≤ 60 := by
  obtain ⟨a, b, e, ha, hb⟩ := below_draw hl
  exact ⟨a, b, Ev.congr (fun k => rfl) (Ev.bind e (Ev.now _)), ha, hb⟩
end Go.Proofs.YtiipkjehlaenkaaDoor.Pure

-- PureFnCommon
/- 'laws.FnCommon' returns true, for all bytes. Conditions: none beyond the statement's. -/
namespace Go.Proofs.YtiipkjehlaenkaaDoor.Pure
open Go.RowKit Go.Proofs.YtiipkjehlaenkaaDoor.P Go.Proofs.YtiipkjehlaenkaaDoorW.PrintWords Go.Proofs.YtiipkjehlaenkaaDoorW.PrintLast
set_option linter.unusedVariables false
set_option linter.unusedSimpArgs false
theorem com_loops (b : ByteArray) (hb : b.size ≤ 100) : ∀ (n : Nat) (a : ByteArray), a.size ≤ n → n ≤ 100 →
    Ev (fun k => spec_l1Common.l0 k a b) (mkB (common a.data.toList b.data.toList)) ∧ Ev (fun k => impl_commonOf.l0 k a b) (mkB (common a.data.toList b.data.toList))
  | n, a, h, hn => by
    by_cases hw : belowL b.data.toList a.data.toList = true
    · rw [common_hit hw, data_mkB]
      refine ⟨Ev.step (f := fun _ => some a) (fun k => ?_) (Ev.now _), Ev.step (f := fun _ => some a) (fun k => ?_) (Ev.now _)⟩
      · show spec_l1Common.l0 (k + 1) a b = _
        unfold spec_l1Common.l0
        rw [specBelow_eq b a (by omega) (by omega)]
        simp [hw]
      · show impl_commonOf.l0 (k + 1) a b = _
        unfold impl_commonOf.l0
        rw [implBelow_eq b a (by omega) (by omega)]
        simp [hw]
    · have hne : a.data.toList ≠ [] := by
        intro e
        apply hw
        unfold belowL
        rw [e]
        rfl
      have hpos : 0 < a.size := by rw [size_len]; exact List.length_pos_iff.2 hne
      have hp : (mkB (parL a.data.toList)).size < a.size := by rw [mkB_size]; have := parL_len a.data.toList; rw [← size_len] at this; omega
      obtain ⟨h1, h2⟩ := com_loops b hb (n - 1) (mkB (parL a.data.toList)) (by omega) (by omega)
      rw [mkB_data] at h1 h2
      rw [common_step hw]
      refine ⟨Ev.step (f := fun k => (spec_l1Parent.f k a).bind fun t => spec_l1Common.l0 k t b) (fun k => ?_) (Ev.bind (specParent_ev a (by omega)) h1), Ev.step (fun k => ?_) h2⟩
      · show spec_l1Common.l0 (k + 1) a b = _
        conv => lhs; unfold spec_l1Common.l0
        rw [specBelow_eq b a (by omega) (by omega)]
        simp [hw]
      · show impl_commonOf.l0 (k + 1) a b = _
        conv => lhs; unfold impl_commonOf.l0
        rw [implBelow_eq b a (by omega) (by omega), implParent_eq a (by omega)]
        simp [hw]
  termination_by n a => a.size
def comR (a b : ByteArray) : ByteArray × Bool := if goodL a.data.toList = true then (if goodL b.data.toList = true then (mkB (common a.data.toList b.data.toList), true) else ((⟨#[]⟩ : ByteArray), false)) else ((⟨#[]⟩ : ByteArray), false)
theorem com_both (a b : ByteArray) (ha : a.size ≤ 100) (hb : b.size ≤ 100) : Ev (fun k => spec_CommonOf.f k a b) (comR a b) ∧ Ev (fun k => impl_CommonOf.f k a b) (comR a b) := by
  obtain ⟨h1, h2⟩ := com_loops b hb a.size a (Nat.le_refl _) ha
  unfold comR
  refine ⟨?_, ?_⟩
  · refine Ev.congr (fun k => rfl) (Ev.bind (specGood_ev a (by omega)) ?_)
    by_cases h : goodL a.data.toList = true
    · simp only [if_pos h]
      refine Ev.bind (specGood_ev b (by omega)) ?_
      by_cases h' : goodL b.data.toList = true
      · simp only [if_pos h']; exact Ev.bind h1 (Ev.now _)
      · simp only [if_neg h']; exact Ev.now _
    · simp only [if_neg h]; exact Ev.now _
  · refine Ev.congr (fun k => rfl) (Ev.bind (Ev.now (goodL a.data.toList)) ?_)
    by_cases h : goodL a.data.toList = true
    · simp only [if_pos h]
      refine Ev.bind (Ev.now (goodL b.data.toList)) ?_
      by_cases h' : goodL b.data.toList = true
      · simp only [if_pos h']; exact Ev.bind h2 (Ev.now _)
      · simp only [if_neg h']; exact Ev.now _
    · simp only [if_neg h]; exact Ev.now _
def belR (a b : ByteArray) : Bool × Bool := if goodL a.data.toList = true then (if goodL b.data.toList = true then (belowL a.data.toList b.data.toList, true) else (false, false)) else (false, false)
theorem belR_impl (a b : ByteArray) (ha : a.size ≤ 100) (hb : b.size ≤ 100) : impl_IsBelow.f a b = some (belR a b) := by
  unfold impl_IsBelow.f impl_GoodName.f belR
  rw [implBelow_eq a b (by omega) (by omega)]
  by_cases h : goodL a.data.toList = true <;> by_cases h' : goodL b.data.toList = true <;> simp [h, h']
theorem belR_spec (a b : ByteArray) (ha : a.size ≤ 100) (hb : b.size ≤ 100) : Ev (fun k => spec_IsBelow.f k a b) (belR a b) := by
  unfold belR
  refine Ev.congr (fun k => rfl) (Ev.bind (specGood_ev a (by omega)) ?_)
  by_cases h : goodL a.data.toList = true
  · simp only [if_pos h]
    refine Ev.bind (specGood_ev b (by omega)) ?_
    simp only [specBelow_eq a b (by omega) (by omega)]
    by_cases h' : goodL b.data.toList = true
    · simp only [if_pos h']; exact Ev.now _
    · simp only [if_neg h']; exact Ev.now _
  · simp only [if_neg h]; exact Ev.now _
theorem com_size (a b : ByteArray) (ha : a.size ≤ 100) : (mkB (common a.data.toList b.data.toList)).size ≤ 100 := by
  rw [mkB_size]
  have := bel_len (common_left a.data.toList b.data.toList)
  rw [← size_len] at this
  omega
theorem com_climb (b : ByteArray) (hb : b.size ≤ 100) (gb : goodL b.data.toList = true) : ∀ (n : Nat) (s : ByteArray), s.size ≤ n → n ≤ 100 → goodL s.data.toList = true →
    Ev (fun k => laws_FnCommon.l0 k b (mkB (common s.data.toList b.data.toList)) s) true
  | n, s, h, hn, gs => by
    by_cases hw : belowL b.data.toList s.data.toList = true
    · rw [common_hit hw, data_mkB]
      refine Ev.step (f := fun _ => some true) (fun k => ?_) (Ev.now _)
      show laws_FnCommon.l0 (k + 1) b s s = _
      unfold laws_FnCommon.l0
      rw [if_pos rfl]
    · have hne : s.data.toList ≠ [] := by
        intro e
        apply hw
        unfold belowL
        rw [e]
        rfl
      have hpos : 0 < s.size := by rw [size_len]; exact List.length_pos_iff.2 hne
      have hpl := parL_len s.data.toList
      rw [← size_len] at hpl
      have hp : (mkB (parL s.data.toList)).size < s.size := by rw [mkB_size]; omega
      have ih := com_climb b hb gb (n - 1) (mkB (parL s.data.toList)) (by omega) (by omega) (by rw [mkB_data]; exact good_par gs)
      rw [mkB_data] at ih
      have hcs := common_step hw
      have hdiff : ¬ s.toList = (mkB (common s.data.toList b.data.toList)).toList := by
        rw [Lib.toList_data, Lib.toList_data, mkB_data]
        intro e
        have h1 := bel_len (common_left (parL s.data.toList) b.data.toList)
        rw [← hcs, ← e, ← size_len] at h1
        omega
      have hpar : impl_ParentOf.f s = some (mkB (parL s.data.toList), true) := by
        unfold impl_ParentOf.f impl_GoodName.f
        rw [implParent_eq s (by omega), Lib.toList_data]
        simp [gs, hne]
      have hbel : impl_IsBelow.f b s = some (false, true) := by
        rw [belR_impl b s hb (by omega)]
        unfold belR
        rw [if_pos gb, if_pos gs, Bool.eq_false_iff.mpr hw]
      refine Ev.step (fun k => ?_) ih
      show laws_FnCommon.l0 (k + 1) b (mkB (common s.data.toList b.data.toList)) s = _
      conv => lhs; unfold laws_FnCommon.l0
      rw [if_neg hdiff, hbel, hpar, hcs]
      simp
  termination_by n s => s.size
theorem FnCommon : laws_FnCommon.Pure := by
  intro l0 _ _ hw
  suffices h : Ev (fun k => laws_FnCommon.f k l0) true from h.rounds
  by_cases h : (l0.length : Int) > 1048576
  · exact Ev.congr (fun k => by unfold laws_FnCommon.f; rw [if_pos h]) (Ev.now true)
  · obtain ⟨a, b, e, ha, hb⟩ := common_draw (bytes_of hw)
    obtain ⟨c1, c2⟩ := com_both a b (by omega) (by omega)
    refine Ev.congr (fun k => by unfold laws_FnCommon.f; rw [if_neg h]) (Ev.bind e (Ev.bind c2 (Ev.bind c1 (Ev.bind (Ev.congr (f := fun _ => some (belR a b)) (fun k => belR_impl a b (by omega) (by omega)) (Ev.now _)) (Ev.bind (belR_spec a b (by omega) (by omega)) ?_)))))
    simp only [bne_self_eq_false, if_true, Bool.false_eq_true, if_false]
    by_cases hg : goodL a.data.toList = true ∧ goodL b.data.toList = true
    · have ec : comR a b = (mkB (common a.data.toList b.data.toList), true) := by unfold comR; rw [if_pos hg.1, if_pos hg.2]
      have ed : comR b a = (mkB (common a.data.toList b.data.toList), true) := by unfold comR; rw [if_pos hg.2, if_pos hg.1, common_comm]
      have eb : belR a b = (belowL a.data.toList b.data.toList, true) := by unfold belR; rw [if_pos hg.1, if_pos hg.2]
      have hcs := com_size a b (by omega)
      have gc := good_common b.data.toList hg.1
      have e1 : impl_IsBelow.f a (mkB (common a.data.toList b.data.toList)) = some (true, true) := by
        rw [belR_impl _ _ (by omega) hcs]
        unfold belR
        rw [mkB_data, if_pos hg.1, if_pos gc, (bel_iff _ _).2 (common_left _ _)]
      have e2 : impl_IsBelow.f b (mkB (common a.data.toList b.data.toList)) = some (true, true) := by
        rw [belR_impl _ _ (by omega) hcs]
        unfold belR
        rw [mkB_data, if_pos hg.2, if_pos gc, (bel_iff _ _).2 (common_right _ _)]
      have ef : (belowL a.data.toList b.data.toList != ((mkB (common a.data.toList b.data.toList)).toList == b.toList)) = false := by
        rw [Lib.toList_data, Lib.toList_data, mkB_data, common_below]
        simp
      rw [ec, eb]
      refine Ev.step (f := fun k => (impl_CommonOf.f k b a).bind fun bt255 => if bt255.2 = true then (if bt255.1.toList = (mkB (common a.data.toList b.data.toList)).toList then laws_FnCommon.j1 k a b (mkB (common a.data.toList b.data.toList)) false else laws_FnCommon.j1 k a b (mkB (common a.data.toList b.data.toList)) true) else laws_FnCommon.j1 k a b (mkB (common a.data.toList b.data.toList)) true) (fun k => ?_) (Ev.bind (com_both b a (by omega) (by omega)).2 ?_)
      · conv => lhs; unfold laws_FnCommon.j0
        simp only [e1, e2, ef, Option.bind_some, if_true, Bool.false_eq_true, if_false]
      · rw [ed]
        simp only [if_true]
        refine Ev.step (fun k => ?_) (com_climb b (by omega) hg.2 a.size a (Nat.le_refl _) (by omega) hg.1)
        rfl
    · have ec : comR a b = ((⟨#[]⟩ : ByteArray), false) := by
        unfold comR
        by_cases h1 : goodL a.data.toList = true
        · rw [if_pos h1, if_neg (fun h2 => hg ⟨h1, h2⟩)]
        · rw [if_neg h1]
      rw [ec]
      refine Ev.step (f := fun _ => some true) (fun k => ?_) (Ev.now _)
      show (some ((⟨#[]⟩ : ByteArray).toList == ([] : List UInt8)) : Option Bool) = some true
      rw [Lib.toList_data]
      rfl
end Go.Proofs.YtiipkjehlaenkaaDoor.Pure
