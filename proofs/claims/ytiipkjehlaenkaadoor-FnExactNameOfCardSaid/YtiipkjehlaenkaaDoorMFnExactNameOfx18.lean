/- FnExactNameOf: part 19 of 20 of my texts for this claim, joined; the theorem stands in the last. Conditions: none beyond the statement's. -/
import Derived.Test.YtiipkjehlaenkaaDoorMFnExactNameOfx7
import Derived.Test.YtiipkjehlaenkaaDoorMFnExactNameOfx16
import Derived.Test.YtiipkjehlaenkaaDoorMFnExactNameOfx17
import Derived.Test.YtiipkjehlaenkaaDoorMFnExactNameOfx14
import Derived.Test.YtiipkjehlaenkaaDoorMFnExactNameOfx15
import Derived.Test.YtiipkjehlaenkaaDoorMFnExactNameOfx13
-- PureMarkS
/- The laws' own helpers on lists of texts: like lists are found alike, marks that were laid are held. Conditions: the lists' lengths. -/
namespace Go.Proofs.YtiipkjehlaenkaaDoor.Pure
open Go.RowKit Go.Proofs.YtiipkjehlaenkaaDoor.P Go.Proofs.YtiipkjehlaenkaaDoorW.PrintWords Go.Proofs.YtiipkjehlaenkaaDoorW.PrintLast
set_option linter.unusedVariables false
set_option linter.unusedSimpArgs false

theorem mS_w {n : Nat} (h : n < 4611686018427387904) : wrap64 ((n : Int) + 1) = ((n + 1 : Nat) : Int) := by unfold wrap64; omega
theorem mS_rd (l : List ByteArray) (i : Nat) (h : i < l.length) : rdOf ByteArray.empty l (i : Int) = l[i] := by
  unfold rdOf
  rw [Int.toNat_natCast, List.getD_eq_getElem?_getD, List.getElem?_eq_getElem h]
  rfl

theorem eqS_loop (l : List ByteArray) (hl : l.length < 1099511627776) : ∀ (m i : Nat), i + m = l.length → laws_eqStringS.l0 (m + 1) l l (i : Int) = some true
  | 0, i, h => by
    unfold laws_eqStringS.l0
    rw [if_neg (by omega)]
  | m + 1, i, h => by
    unfold laws_eqStringS.l0
    rw [if_pos (by omega), if_pos (by omega), if_pos (by omega), if_pos rfl, mS_w (by omega), eqS_loop l hl m (i + 1) (by omega)]
theorem eqS_ev (l : List ByteArray) (hl : l.length < 1099511627776) : Ev (fun k => laws_eqStringS.f k l l) true := by
  refine Ev.of (fun k => laws_eqStringS.mono _ _ _) (k := l.length + 1) ?_
  unfold laws_eqStringS.f
  rw [if_pos rfl]
  exact eqS_loop l hl l.length 0 (by omega)

theorem markT_loop : ∀ (n : Nat) (x : Int) (acc : ByteArray), x ≤ n → acc.size + n < 1099511627776 → ∃ t, Ev (fun k => laws_markText.l0 k x acc) t
  | n, x, acc, hx, ha => by
    by_cases h : x > 0
    · have hw : wrap64 (Int.tdiv x 10) = x / 10 := by
        rw [Int.tdiv_eq_ediv_of_nonneg (by omega)]
        unfold wrap64
        omega
      have hs : ∀ v : Int, (strOfNums [v]).size = 1 := fun v => by rw [strOfNums_size]; rfl
      match n, hx, ha with
      | 0, hx, ha => omega
      | n + 1, hx, ha =>
        obtain ⟨t, ht⟩ := markT_loop n (x / 10) (strOfNums [(wrap64 (48 + (Int.tmod x 10))) % 256] ++ acc) (by omega) (by rw [ByteArray.size_append, hs]; omega)
        refine ⟨t, Ev.step (fun k => ?_) ht⟩
        show laws_markText.l0 (k + 1) x acc = _
        conv => lhs; unfold laws_markText.l0
        rw [if_pos h, Option.bind_some, if_pos (by rw [hs]; omega), hw]
    · refine ⟨(⟨#[109]⟩ : ByteArray) ++ acc, Ev.step (f := fun _ => some _) (fun k => ?_) (Ev.now _)⟩
      show laws_markText.l0 (k + 1) x acc = _
      unfold laws_markText.l0
      rw [if_neg h, if_pos (by omega)]
theorem markT_some (x : Int) (hx : x < 549755813888) : ∃ t, Ev (fun k => laws_markText.f k x) t := by
  by_cases h : x ≤ 0
  · refine ⟨(⟨#[109, 48]⟩ : ByteArray), Ev.congr (fun k => ?_) (Ev.now _)⟩
    unfold laws_markText.f
    rw [if_pos h]
  · obtain ⟨t, ht⟩ := markT_loop x.toNat x (⟨#[]⟩ : ByteArray) (by omega) (by show 0 + x.toNat < _; omega)
    refine ⟨t, Ev.congr (fun k => ?_) ht⟩
    unfold laws_markText.f
    rw [if_neg h]
/-- The text of a mark. -/
noncomputable def markT (x : Int) : ByteArray := if h : x < 549755813888 then (markT_some x h).choose else ⟨#[]⟩
theorem markT_ev (x : Int) (h : x < 549755813888) : Ev (fun k => laws_markText.f k x) (markT x) := by
  unfold markT
  rw [dif_pos h]
  exact (markT_some x h).choose_spec
noncomputable def marks (a n : Nat) : List ByteArray := (List.range n).map fun j => markT ((a + j : Nat) : Int)
theorem marks_len (a n : Nat) : (marks a n).length = n := by simp [marks]

theorem markS_loop (a : Nat) (ha : a < 1000000) : ∀ (m i : Nat) (l : List ByteArray), i + m = l.length → l.length < 274877906944 → l.take i = marks a i →
    Ev (fun k => laws_markStringS.l0 k l ((a + i : Nat) : Int) (i : Int)) (((a + l.length : Nat) : Int), marks a l.length)
  | 0, i, l, h, hl, ht => by
    refine Ev.step (f := fun _ => some _) (fun k => ?_) (Ev.now _)
    show laws_markStringS.l0 (k + 1) l ((a + i : Nat) : Int) (i : Int) = _
    unfold laws_markStringS.l0
    rw [if_neg (by omega), show i = l.length by omega] at *
    rw [List.take_length] at ht
    rw [← ht]
  | m + 1, i, l, h, hl, ht => by
    have ih := markS_loop a ha m (i + 1) (l.set i (markT ((a + i : Nat) : Int))) (by rw [List.length_set]; omega) (by rw [List.length_set]; omega) (by
      rw [List.take_set, List.take_add_one, ht, List.getElem?_eq_getElem (by omega)]
      unfold marks
      rw [List.range_succ, List.map_append]
      simp [List.set_append])
    rw [List.length_set] at ih
    refine Ev.step (f := fun k => (laws_markText.f k ((a + i : Nat) : Int)).bind fun t => laws_markStringS.l0 k (l.set i t) ((a + (i + 1) : Nat) : Int) ((i + 1 : Nat) : Int)) (fun k => ?_) (Ev.bind (markT_ev _ (by omega)) ih)
    show laws_markStringS.l0 (k + 1) l ((a + i : Nat) : Int) (i : Int) = _
    conv => lhs; unfold laws_markStringS.l0
    rw [if_pos (by omega), mS_w (by omega), mS_w (by omega)]
    simp only [if_pos (show 0 ≤ (i : Int) by omega), Int.toNat_natCast]
    rfl
theorem markS_ev (a : Nat) (ha : a < 1000000) (l : List ByteArray) (hl : l.length < 274877906944) : Ev (fun k => laws_markStringS.f k l (a : Int)) (((a + l.length : Nat) : Int), marks a l.length) := by
  have := markS_loop a ha l.length 0 l (by omega) hl (by simp [marks])
  exact this

theorem heldS_loop (a n : Nat) (ha : a < 1000000) (hn : n < 274877906944) : ∀ (m i : Nat), i + m = n →
    Ev (fun k => laws_heldStringS.l0 k (marks a n) ((a + i : Nat) : Int) (i : Int)) ((a + n : Nat) : Int)
  | 0, i, h => by
    refine Ev.step (f := fun _ => some _) (fun k => ?_) (Ev.now _)
    show laws_heldStringS.l0 (k + 1) (marks a n) ((a + i : Nat) : Int) (i : Int) = _
    unfold laws_heldStringS.l0
    rw [marks_len, if_neg (by omega), show i = n by omega]
  | m + 1, i, h => by
    have ih := heldS_loop a n ha hn m (i + 1) (by omega)
    have hg : rdOf ByteArray.empty (marks a n) (i : Int) = markT ((a + i : Nat) : Int) := by
      rw [mS_rd _ _ (by rw [marks_len]; omega)]
      simp [marks]
    refine Ev.step (f := fun k => (laws_markText.f k ((a + i : Nat) : Int)).bind fun t => if (rdOf ByteArray.empty (marks a n) (i : Int)).toList = t.toList then laws_heldStringS.l0 k (marks a n) ((a + (i + 1) : Nat) : Int) ((i + 1 : Nat) : Int) else some (-1)) (fun k => ?_) (Ev.bind (markT_ev _ (by omega)) ?_)
    · show laws_heldStringS.l0 (k + 1) (marks a n) ((a + i : Nat) : Int) (i : Int) = _
      conv => lhs; unfold laws_heldStringS.l0
      rw [marks_len, if_pos (by omega), if_pos (by omega), mS_w (by omega), mS_w (by omega)]
      rfl
    · simp only [hg, if_true]
      exact ih
theorem heldS_ev (a n : Nat) (ha : a < 1000000) (hn : n < 274877906944) : Ev (fun k => laws_heldStringS.f k (marks a n) (a : Int)) ((a + n : Nat) : Int) := by
  have := heldS_loop a n ha hn n 0 (by omega)
  exact this
end Go.Proofs.YtiipkjehlaenkaaDoor.Pure

-- PureFnExactNameOf
/- 'laws.FnExactNameOf' returns true: the reference and the program return the same. Conditions: none beyond the statement's. -/
namespace Go.Proofs.YtiipkjehlaenkaaDoor.Pure
open Go.RowKit Go.Proofs.YtiipkjehlaenkaaDoor.P Go.Proofs.YtiipkjehlaenkaaDoorW.PrintWords Go.Proofs.YtiipkjehlaenkaaDoorW.PrintLast
set_option linter.unusedVariables false
set_option linter.unusedSimpArgs false
def failN : ByteArray × Bool := ((⟨#[]⟩ : ByteArray), false)
def nameS (L : List ByteArray) : ByteArray × Bool := if goodL (joinL L) = true then (mkB (joinL L), true) else failN
theorem label_dot {l : List UInt8} (h : isLabelL l = true) : ∀ y ∈ l, y ≠ 46 := by
  unfold isLabelL at h
  simp only [Bool.or_eq_true, Bool.and_eq_true, beq_iff_eq, List.all_eq_true] at h
  rintro y hy rfl
  rcases h with rfl | h
  · simp at hy
  · exact absurd (h.2 46 hy) (by decide)
theorem nameof_loop (L : List ByteArray) (hs : ∀ x ∈ L, x.size ≤ 1048576) (hn : L.length ≤ 1048576) : ∀ (m i : Nat), i + m = L.length → (∀ x ∈ L.take i, isLabelL x.data.toList = true) →
    Ev (fun k => spec_NameOf.l0 k L L (L.length : Int) (i : Int)) (if L.all (fun x => isLabelL x.data.toList) then nameS L else failN)
  | 0, i, him, hp => by
    rw [List.take_of_length_le (by omega)] at hp
    have hall : L.all (fun x => isLabelL x.data.toList) = true := List.all_eq_true.2 hp
    have hsz : ∀ x ∈ L, x.size ≤ 1000 := fun x hx => by have := label_size (hp x hx); rw [size_len]; omega
    have hjl := joinL_len L (fun x hx => by have := label_size (hp x hx); rw [size_len]; omega)
    rw [hall, if_pos rfl]
    refine Ev.step (f := fun k => (spec_l1Join.f k L).bind fun t269 => ((spec_GoodName.f k t269).bind fun t270 => (if t270 = true then (some (t269, true)) else (some failN)))) (fun k => ?_) (Ev.bind (join_ev L hsz (by omega)) (Ev.bind (specGood_ev _ (by rw [mkB_size]; omega)) ?_))
    · show spec_NameOf.l0 (k + 1) L L (L.length : Int) (i : Int) = _
      conv => lhs; unfold spec_NameOf.l0
      rw [if_neg (by omega)]
      rfl
    · rw [mkB_data]
      unfold nameS
      by_cases hg : goodL (joinL L) = true
      · simp only [if_pos hg]; exact Ev.now _
      · simp only [if_neg hg]; exact Ev.now _
  | m + 1, i, him, hp => by
    have hi : i < L.length := by omega
    have hrd : rdOf ByteArray.empty L (i : Int) = L[i] := sz_rd L i hi
    refine Ev.step (f := fun k => (spec_l1Label.f k L[i]).bind fun t268 => (if t268 = true then (spec_NameOf.l0 k L L (L.length : Int) ((i + 1 : Nat) : Int)) else (some failN))) (fun k => ?_) (Ev.bind (label_ev L[i] (by have := hs _ (List.getElem_mem hi); omega)) ?_)
    · show spec_NameOf.l0 (k + 1) L L (L.length : Int) (i : Int) = _
      conv => lhs; unfold spec_NameOf.l0
      rw [if_pos (by omega), if_pos (by omega), if_pos (by omega), hrd, w64n (by omega)]
      rfl
    · by_cases hg : isLabelL L[i].data.toList = true
      · simp only [if_pos hg]
        refine nameof_loop L hs hn m (i + 1) (by omega) ?_
        intro x hx
        rw [List.take_add_one, List.getElem?_eq_getElem hi] at hx
        rcases List.mem_append.1 hx with hx | hx
        · exact hp x hx
        · obtain rfl : x = L[i] := by simpa using hx
          exact hg
      · have hall : L.all (fun x => isLabelL x.data.toList) = false := by
          rw [List.all_eq_false]
          exact ⟨_, List.getElem_mem hi, hg⟩
        simp only [if_neg hg, hall, Bool.false_eq_true, if_false]
        exact Ev.now _
theorem nameof_spec (L : List ByteArray) (hs : ∀ x ∈ L, x.size ≤ 1048576) (hn : L.length ≤ 1048576) : Ev (fun k => spec_NameOf.f k L) (nameR L) := by
  have := nameof_loop L hs hn L.length 0 (by omega) (by simp)
  have e : nameR L = if L.all (fun x => isLabelL x.data.toList) then nameS L else failN := by
    unfold nameR nameS failN
    by_cases hall : L.all (fun x => isLabelL x.data.toList) = true
    · rw [hall, Bool.and_true, if_pos rfl]
      by_cases h8 : L.length ≤ 8
      · rw [decide_eq_true h8, if_pos rfl]
      · rw [decide_eq_false h8, if_neg (by simp)]
        have hg : ¬ goodL (joinL L) = true := by
          intro hg
          unfold goodL at hg
          simp only [Bool.and_eq_true, decide_eq_true_eq] at hg
          have hne : L ≠ [] := by rintro rfl; simp at h8
          have hsp := split_join (L.map (·.data.toList)) (by simpa using hne) (by
            intro x hx
            obtain ⟨q, hq, rfl⟩ := List.mem_map.1 hx
            exact label_dot (List.all_eq_true.1 hall q hq))
          have hlab : labelsL (joinL L) = L.map (·.data.toList) := by
            unfold labelsL
            rw [if_neg ?_]
            · exact hsp
            · intro e
              unfold joinL at e
              rw [e] at hsp
              have := congrArg List.length hsp
              rw [List.length_map] at this
              simp [splitL] at this
              omega
          rw [hlab, List.length_map] at hg
          omega
        rw [if_neg hg]
    · rw [Bool.eq_false_iff.mpr hall, Bool.and_false, if_neg (by simp)]
  rw [e]
  exact this
theorem FnExactNameOf (l0 : List ByteArray) (hl : l0.length ≤ maxLen) (hs : ∀ s ∈ l0, s.size ≤ maxLen) : ∃ k, laws_FnExactNameOf.f k l0 = some true := by
  suffices h : Ev (fun k => laws_FnExactNameOf.f k l0) true from h.rounds
  obtain ⟨t, e1, e2⟩ := szS_ev l0 hs hl
  refine Ev.congr (fun k => rfl) (Ev.bind e1 ?_)
  by_cases ht : t < 0
  · simp only [if_pos ht]; exact Ev.now _
  · simp only [if_neg ht]
    obtain ⟨h1, h2⟩ := e2 (by omega)
    refine Ev.bind (toS_ev l0 h1) (Ev.bind (nameof_spec l0 h2 h1) (Ev.bind (toS_ev l0 h1) ?_))
    unfold impl_NameOf.f
    simp only [Option.bind_some, if_true, bne_self_eq_false]
    refine Ev.step (f := fun k => (laws_toStringS.f k l0).bind fun t290 => ((laws_eqStringS.f k l0 t290).bind fun t293 => (if t293 = true then (some true) else (some false)))) (fun k => ?_) (Ev.bind (toS_ev l0 h1) (Ev.bind (eqS_ev l0 (by omega)) ?_))
    · rfl
    · simp only [if_true]; exact Ev.now _
end Go.Proofs.YtiipkjehlaenkaaDoor.Pure
