/- FnExactUnpackNames: part 21 of 22 of my texts for this claim, joined; the theorem stands in the last. Conditions: none beyond the statement's. -/
import Derived.Test.YtomcfhbmdoomlaaDoorMFnExactUnpackNamesx14
import Derived.Test.YtomcfhbmdoomlaaDoorMFnExactUnpackNamesx15
import Derived.Test.YtomcfhbmdoomlaaDoorMFnExactUnpackNamesx16
import Derived.Test.YtomcfhbmdoomlaaDoorMFnExactUnpackNamesx19
import Derived.Test.YtomcfhbmdoomlaaDoorMFnExactUnpackNamesx17
-- PureMarkS
/- The laws' own helpers on lists of texts: like lists are found alike, marks that were laid are held. Conditions: the lists' lengths. -/
namespace Go.Proofs.YtomcfhbmdoomlaaDoor.Pure
open Go.RowKit Go.Proofs.YtomcfhbmdoomlaaDoor.P Go.Proofs.YtomcfhbmdoomlaaDoorW.PrintWords Go.Proofs.YtomcfhbmdoomlaaDoorW.PrintLast
set_option linter.unusedVariables false
set_option linter.unusedSimpArgs false

theorem mS_w {n : Nat} (h : n < 4611686018427387904) : wrap64 ((n : Int) + 1) = ((n + 1 : Nat) : Int) := by unfold wrap64; omega
theorem mS_rd (l : List ByteArray) (i : Nat) (h : i < l.length) : rdOf ByteArray.empty l (i : Int) = l[i] := by
  unfold rdOf
  rw [Int.toNat_natCast, List.getD_eq_getElem?_getD, List.getElem?_eq_getElem h]
  rfl

theorem eqS_loop (l : List ByteArray) (hl : l.length < 1099511627776) : ∀ (m i : Nat), i + m = l.length → laws_eqStringS.l0 (m + 1) l l (i : Int) = some true
  | 0, i, h => by
    unfold laws_eqStringS.l0
    rw [if_neg (by omega)]
  | m + 1, i, h => by
    unfold laws_eqStringS.l0
    rw [if_pos (by omega), if_pos (by omega), if_pos (by omega), if_pos rfl, mS_w (by omega), eqS_loop l hl m (i + 1) (by omega)]
theorem eqS_ev (l : List ByteArray) (hl : l.length < 1099511627776) : Ev (fun k => laws_eqStringS.f k l l) true := by
  refine Ev.of (fun k => laws_eqStringS.mono _ _ _) (k := l.length + 1) ?_
  unfold laws_eqStringS.f
  rw [if_pos rfl]
  exact eqS_loop l hl l.length 0 (by omega)

theorem markT_loop : ∀ (n : Nat) (x : Int) (acc : ByteArray), x ≤ n → acc.size + n < 1099511627776 → ∃ t, Ev (fun k => laws_markText.l0 k x acc) t
  | n, x, acc, hx, ha => by
    by_cases h : x > 0
    · have hw : wrap64 (Int.tdiv x 10) = x / 10 := by
        rw [Int.tdiv_eq_ediv_of_nonneg (by omega)]
        unfold wrap64
        omega
      have hs : ∀ v : Int, (strOfNums [v]).size = 1 := fun v => by rw [strOfNums_size]; rfl
      match n, hx, ha with
      | 0, hx, ha => omega
      | n + 1, hx, ha =>
        obtain ⟨t, ht⟩ := markT_loop n (x / 10) (strOfNums [(wrap64 (48 + (Int.tmod x 10))) % 256] ++ acc) (by omega) (by rw [ByteArray.size_append, hs]; omega)
        refine ⟨t, Ev.step (fun k => ?_) ht⟩
        show laws_markText.l0 (k + 1) x acc = _
        conv => lhs; unfold laws_markText.l0
        rw [if_pos h, Option.bind_some, if_pos (by rw [hs]; omega), hw]
    · refine ⟨(⟨#[109]⟩ : ByteArray) ++ acc, Ev.step (f := fun _ => some _) (fun k => ?_) (Ev.now _)⟩
      show laws_markText.l0 (k + 1) x acc = _
      unfold laws_markText.l0
      rw [if_neg h, if_pos (by omega)]
theorem markT_some (x : Int) (hx : x < 549755813888) : ∃ t, Ev (fun k => laws_markText.f k x) t := by
  by_cases h : x ≤ 0
  · refine ⟨(⟨#[109, 48]⟩ : ByteArray), Ev.congr (fun k => ?_) (Ev.now _)⟩
    unfold laws_markText.f
    rw [if_pos h]
  · obtain ⟨t, ht⟩ := markT_loop x.toNat x (⟨#[]⟩ : ByteArray) (by omega) (by show 0 + x.toNat < _; omega)
    refine ⟨t, Ev.congr (fun k => ?_) ht⟩
    unfold laws_markText.f
    rw [if_neg h]
/-- The text of a mark. -/
noncomputable def markT (x : Int) : ByteArray := if h : x < 549755813888 then (markT_some x h).choose else ⟨#[]⟩
theorem markT_ev (x : Int) (h : x < 549755813888) : Ev (fun k => laws_markText.f k x) (markT x) := by
  unfold markT
  rw [dif_pos h]
  exact (markT_some x h).choose_spec
noncomputable def marks (a n : Nat) : List ByteArray := (List.range n).map fun j => markT ((a + j : Nat) : Int)
theorem marks_len (a n : Nat) : (marks a n).length = n := by simp [marks]

theorem markS_loop (a : Nat) (ha : a < 1000000) : ∀ (m i : Nat) (l : List ByteArray), i + m = l.length → l.length < 274877906944 → l.take i = marks a i →
    Ev (fun k => laws_markStringS.l0 k l ((a + i : Nat) : Int) (i : Int)) (((a + l.length : Nat) : Int), marks a l.length)
  | 0, i, l, h, hl, ht => by
    refine Ev.step (f := fun _ => some _) (fun k => ?_) (Ev.now _)
    show laws_markStringS.l0 (k + 1) l ((a + i : Nat) : Int) (i : Int) = _
    unfold laws_markStringS.l0
    rw [if_neg (by omega), show i = l.length by omega] at *
    rw [List.take_length] at ht
    rw [← ht]
  | m + 1, i, l, h, hl, ht => by
    have ih := markS_loop a ha m (i + 1) (l.set i (markT ((a + i : Nat) : Int))) (by rw [List.length_set]; omega) (by rw [List.length_set]; omega) (by
      rw [List.take_set, List.take_add_one, ht, List.getElem?_eq_getElem (by omega)]
      unfold marks
      rw [List.range_succ, List.map_append]
      simp [List.set_append])
    rw [List.length_set] at ih
    refine Ev.step (f := fun k => (laws_markText.f k ((a + i : Nat) : Int)).bind fun t => laws_markStringS.l0 k (l.set i t) ((a + (i + 1) : Nat) : Int) ((i + 1 : Nat) : Int)) (fun k => ?_) (Ev.bind (markT_ev _ (by omega)) ih)
    show laws_markStringS.l0 (k + 1) l ((a + i : Nat) : Int) (i : Int) = _
    conv => lhs; unfold laws_markStringS.l0
    rw [if_pos (by omega), mS_w (by omega), mS_w (by omega)]
    simp only [if_pos (show 0 ≤ (i : Int) by omega), Int.toNat_natCast]
    rfl
theorem markS_ev (a : Nat) (ha : a < 1000000) (l : List ByteArray) (hl : l.length < 274877906944) : Ev (fun k => laws_markStringS.f k l (a : Int)) (((a + l.length : Nat) : Int), marks a l.length) := by
  have := markS_loop a ha l.length 0 l (by omega) hl (by simp [marks])
  exact this

theorem heldS_loop (a n : Nat) (ha : a < 1000000) (hn : n < 274877906944) : ∀ (m i : Nat), i + m = n →
    Ev (fun k => laws_heldStringS.l0 k (marks a n) ((a + i : Nat) : Int) (i : Int)) ((a + n : Nat) : Int)
  | 0, i, h => by
    refine Ev.step (f := fun _ => some _) (fun k => ?_) (Ev.now _)
    show laws_heldStringS.l0 (k + 1) (marks a n) ((a + i : Nat) : Int) (i : Int) = _
    unfold laws_heldStringS.l0
    rw [marks_len, if_neg (by omega), show i = n by omega]
  | m + 1, i, h => by
    have ih := heldS_loop a n ha hn m (i + 1) (by omega)
    have hg : rdOf ByteArray.empty (marks a n) (i : Int) = markT ((a + i : Nat) : Int) := by
      rw [mS_rd _ _ (by rw [marks_len]; omega)]
      simp [marks]
    refine Ev.step (f := fun k => (laws_markText.f k ((a + i : Nat) : Int)).bind fun t => if (rdOf ByteArray.empty (marks a n) (i : Int)).toList = t.toList then laws_heldStringS.l0 k (marks a n) ((a + (i + 1) : Nat) : Int) ((i + 1 : Nat) : Int) else some (-1)) (fun k => ?_) (Ev.bind (markT_ev _ (by omega)) ?_)
    · show laws_heldStringS.l0 (k + 1) (marks a n) ((a + i : Nat) : Int) (i : Int) = _
      conv => lhs; unfold laws_heldStringS.l0
      rw [marks_len, if_pos (by omega), if_pos (by omega), mS_w (by omega), mS_w (by omega)]
      rfl
    · simp only [hg, if_true]
      exact ih
theorem heldS_ev (a n : Nat) (ha : a < 1000000) (hn : n < 274877906944) : Ev (fun k => laws_heldStringS.f k (marks a n) (a : Int)) ((a + n : Nat) : Int) := by
  have := heldS_loop a n ha hn n 0 (by omega)
  exact this
end Go.Proofs.YtomcfhbmdoomlaaDoor.Pure

-- PureFnExactUnpackNames
/- 'laws.FnExactUnpackNames' returns true: the reference and the program return the same. Conditions: the text's size. -/
namespace Go.Proofs.YtomcfhbmdoomlaaDoor.Pure
open Go.RowKit Go.Proofs.YtomcfhbmdoomlaaDoor.P Go.Proofs.YtomcfhbmdoomlaaDoorW.PrintWords Go.Proofs.YtomcfhbmdoomlaaDoorW.PrintLast
set_option linter.unusedVariables false
set_option linter.unusedSimpArgs false

def unR (q : List ByteArray × Bool) : List ByteArray × Bool := if q.2 = true then (q.1, true) else ([], false)
theorem unpack_loops (s : ByteArray) (hs : s.size ≤ 600) (many : Nat) (hm : many ≤ 20) : ∀ (n a : Nat) (out : List ByteArray), out.length + n = many → a ≤ s.size →
    ∃ q, Ev (fun k => spec_UnpackNames.l0 k s (many : Int) out (a : Int)) (unR q) ∧ Ev (fun k => impl_unpacked.l0 k s out (a : Int) (many : Int) (out.length : Int)) q ∧ q.1.length ≤ 20
  | 0, a, out, hn, ha => by
    refine ⟨(out, (a : Int) == (s.size : Int)), Ev.step (f := fun _ => some (unR (out, (a : Int) == (s.size : Int)))) (fun k => ?_) (Ev.now _), Ev.step (f := fun _ => some (out, (a : Int) == (s.size : Int))) (fun k => ?_) (Ev.now _), by show out.length ≤ 20; omega⟩
    · show spec_UnpackNames.l0 (k + 1) s (many : Int) out (a : Int) = _
      conv => lhs; unfold spec_UnpackNames.l0
      unfold unR
      rw [if_neg (by omega)]
      by_cases h : (a : Int) = (s.size : Int)
      · rw [if_pos h, h]; simp
      · rw [if_neg h, show ((a : Int) == (s.size : Int)) = false from beq_eq_false_iff_ne.mpr h]; simp
    · show impl_unpacked.l0 (k + 1) s out (a : Int) (many : Int) (out.length : Int) = _
      conv => lhs; unfold impl_unpacked.l0
      rw [if_neg (by omega)]
  | n + 1, a, out, hn, ha => by
    obtain ⟨r, r', g1, g2, g3, g4⟩ := take_both s hs a ha
    have es : ∀ k, spec_UnpackNames.l0 (k + 1) s (many : Int) out (a : Int) = (spec_l2Take.f k s (a : Int)).bind fun bt228 => (if bt228.2.2.2 = true then (if out.length < 8796093022208 then (spec_UnpackNames.l0 k s (many : Int) (out ++ [bt228.1]) bt228.2.1) else (none)) else (some (([] : List ByteArray), false))) := fun k => by
      conv => lhs; unfold spec_UnpackNames.l0
      rw [if_pos (by omega)]
    have ei : ∀ k, impl_unpacked.l0 (k + 1) s out (a : Int) (many : Int) (out.length : Int) = (impl_takeName.f k s (a : Int)).bind fun bt240 => (if bt240.2.2.2 = true then (if out.length < 8796093022208 then (impl_unpacked.l0 k s (out ++ [bt240.1]) bt240.2.2.1 (many : Int) ((out.length + 1 : Nat) : Int)) else (none)) else (some (([] : List ByteArray), false))) := fun k => by
      conv => lhs; unfold impl_unpacked.l0
      rw [if_pos (by omega), w64n (by omega)]
    by_cases hr : r.2.2.2 = true
    · obtain ⟨q1, q2, q3, q4, q5, q6⟩ := g4 hr
      obtain ⟨b, hb⟩ : ∃ b : Nat, r.2.1 = (b : Int) := ⟨r.2.1.toNat, by omega⟩
      obtain ⟨t, f1, f2, f3⟩ := unpack_loops s hs many hm n b (out ++ [r.1]) (by rw [List.length_append]; simp; omega) (by omega)
      rw [List.length_append] at f2
      refine ⟨t, Ev.step es (Ev.bind g1 ?_), Ev.step ei (Ev.bind g2 ?_), f3⟩
      · simp only [if_pos hr, if_pos (show out.length < 8796093022208 by omega), hb]
        exact f1
      · rw [g3] at hr
        simp only [if_pos hr, ← q1, ← q2, if_pos (show out.length < 8796093022208 by omega), hb]
        exact f2
    · refine ⟨([], false), Ev.step es (Ev.bind g1 ?_), Ev.step ei (Ev.bind g2 ?_), by simp⟩
      · simp only [if_neg hr]; exact Ev.now _
      · rw [g3] at hr
        simp only [if_neg hr]; exact Ev.now _
theorem unpacknames_both (s : ByteArray) (x : Int) (hs : s.size ≤ 1048576) : ∃ r, Ev (fun k => spec_UnpackNames.f k s x) r ∧ Ev (fun k => impl_UnpackNames.f k s x) r ∧ r.1.length ≤ 20 := by
  have sf : ∀ k, spec_UnpackNames.j0 (k + 1) s x true = some ([], false) := fun k => rfl
  have jf : ∀ k, impl_UnpackNames.j0 (k + 1) s x true = some ([], false) := fun k => rfl
  by_cases h6 : (s.size : Int) > 600
  · refine ⟨([], false), Ev.of (fun k => spec_UnpackNames.mono _ _ _) (k := 1) ?_, Ev.of (fun k => impl_UnpackNames.mono _ _ _) (k := 1) ?_, by simp⟩
    · unfold spec_UnpackNames.f; rw [if_pos h6, sf]
    · unfold impl_UnpackNames.f; rw [if_pos h6, jf]
  · have es : ∀ k, spec_UnpackNames.f k s x = spec_UnpackNames.j0 k s x (!decide (0 ≤ x ∧ x ≤ 20)) := fun k => by
      unfold spec_UnpackNames.f; rw [if_neg h6, within_spec]; rfl
    have ei : ∀ k, impl_UnpackNames.f k s x = impl_UnpackNames.j0 k s x (!decide (0 ≤ x ∧ x ≤ 20)) := fun k => by
      unfold impl_UnpackNames.f; rw [if_neg h6, within_eq]; rfl
    by_cases hx : 0 ≤ x ∧ x ≤ 20
    · obtain ⟨many, rfl⟩ : ∃ a : Nat, x = (a : Int) := ⟨x.toNat, by omega⟩
      obtain ⟨q, f1, f2, f3⟩ := unpack_loops s (by omega) many (by omega) many 0 [] (by simp) (by omega)
      refine ⟨unR q, ?_, ?_, ?_⟩
      · refine Ev.congr (fun k => es k) (Ev.step (fun k => ?_) f1)
        show spec_UnpackNames.j0 (k + 1) s (many : Int) _ = _
        rw [decide_eq_true hx]
        rfl
      · refine Ev.congr (fun k => ei k) (Ev.step (f := fun k => (impl_unpacked.f k s (many : Int)).bind fun bt250 => (if bt250.2 = true then (some (bt250.1, true)) else (some (([] : List ByteArray), false)))) (fun k => ?_) (Ev.bind f2 ?_))
        · show impl_UnpackNames.j0 (k + 1) s (many : Int) _ = _
          rw [decide_eq_true hx]
          rfl
        · unfold unR
          by_cases hr : q.2 = true
          · simp only [if_pos hr]; exact Ev.now _
          · simp only [if_neg hr]; exact Ev.now _
      · unfold unR
        split
        · exact f3
        · simp
    · refine ⟨([], false), Ev.of (fun k => spec_UnpackNames.mono _ _ _) (k := 1) ?_, Ev.of (fun k => impl_UnpackNames.mono _ _ _) (k := 1) ?_, by simp⟩
      · rw [es, decide_eq_false hx]; exact sf 0
      · rw [ei, decide_eq_false hx]; exact jf 0
theorem FnExactUnpackNames : laws_FnExactUnpackNames.Pure := by
  intro a0 a1 _ _
  suffices h : Ev (fun k => laws_FnExactUnpackNames.f k a0 a1) true from h.rounds
  by_cases h : (a0.size : Int) > 1048576
  · exact Ev.congr (fun k => by unfold laws_FnExactUnpackNames.f; rw [if_pos h]) (Ev.now true)
  · obtain ⟨r, e1, e2, hl⟩ := unpacknames_both a0 a1 (by omega)
    refine Ev.congr (fun k => by unfold laws_FnExactUnpackNames.f; rw [if_neg h]) (Ev.bind e1 (Ev.bind e2 ?_))
    refine Ev.bind (eqS_ev r.1 (by omega)) ?_
    simp only [if_true, bne_self_eq_false]
    refine Ev.step (f := fun k => (laws_markStringS.f k r.1 1).bind fun bt218 => ((laws_heldStringS.f k bt218.2 1).bind fun t220 => (if t220 < 0 then (some false) else (if t220 = bt218.1 then ((impl_UnpackNames.f k a0 a1).bind fun bt221 => ((laws_eqStringS.f k bt221.1 r.1).bind fun t225 => (if t225 = true then (laws_FnExactUnpackNames.j1 k bt218.2 bt218.1 (bt221.2 != r.2)) else (laws_FnExactUnpackNames.j1 k bt218.2 bt218.1 true)))) else (some false))))) (fun k => ?_) ?_
    · show laws_FnExactUnpackNames.j0 (k + 1) a0 a1 r.1 r.2 r.1 false = _
      conv => lhs; unfold laws_FnExactUnpackNames.j0
      rfl
    refine Ev.bind (markS_ev 1 (by omega) r.1 (by omega)) ?_
    have hh : Ev (fun k => laws_heldStringS.f k (marks 1 r.1.length) 1) ((1 + r.1.length : Nat) : Int) := heldS_ev 1 r.1.length (by omega) (by omega)
    refine Ev.bind hh ?_
    simp only [if_neg (show ¬ ((1 + r.1.length : Nat) : Int) < 0 by omega), if_true]
    refine Ev.bind e2 (Ev.bind (eqS_ev r.1 (by omega)) ?_)
    simp only [if_true, bne_self_eq_false]
    refine Ev.step (f := fun k => (laws_heldStringS.f k (marks 1 r.1.length) 1).bind fun t226 => (if t226 < 0 then (some false) else (if t226 = ((1 + r.1.length : Nat) : Int) then (some true) else (some false)))) (fun k => ?_) ?_
    · show laws_FnExactUnpackNames.j1 (k + 1) (marks 1 r.1.length) ((1 + r.1.length : Nat) : Int) false = _
      conv => lhs; unfold laws_FnExactUnpackNames.j1
      rfl
    refine Ev.bind hh ?_
    simp only [if_neg (show ¬ ((1 + r.1.length : Nat) : Int) < 0 by omega), if_true]
    exact Ev.now _
end Go.Proofs.YtomcfhbmdoomlaaDoor.Pure
