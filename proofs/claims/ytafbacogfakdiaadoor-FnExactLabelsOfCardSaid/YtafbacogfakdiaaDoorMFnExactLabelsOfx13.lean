/- FnExactLabelsOf: part 14 of 15 of my texts for this claim, joined; the theorem stands in the last. Conditions: none beyond the statement's. -/
import Derived.Test.YtafbacogfakdiaaDoorMFnExactLabelsOfx0
import Derived.Test.YtafbacogfakdiaaDoorMFnExactLabelsOfx2
import Derived.Test.YtafbacogfakdiaaDoorMFnExactLabelsOfx10
import Derived.Test.YtafbacogfakdiaaDoorMFnExactLabelsOfx11
import Derived.Test.YtafbacogfakdiaaDoorMFnExactLabelsOfx12
import Derived.Test.YtafbacogfakdiaaDoorMFnExactLabelsOfx6
import Derived.Test.YtafbacogfakdiaaDoorMFnExactLabelsOfx7
import Derived.Test.YtafbacogfakdiaaDoorMFnExactLabelsOfx8
-- F11
-- By my own call of the kit's print (wip/tools/pp.py).
namespace Go.Proofs.YtafbacogfakdiaaDoor.P
open Go.RowKit Go.Proofs.YtafbacogfakdiaaDoorW.PrintWords Go.Proofs.YtafbacogfakdiaaDoorW.PrintLast Go.Proofs.YtafbacogfakdiaaDoorW.PrintMore
attribute [local go_sem] max2_int min2_int max_two min_two max_three min_three max_four min_four
set_option linter.unusedVariables false
set_option linter.unusedSimpArgs false

/-! ### spec_GoodName: function 11 -/
def spec_GoodName.f (k : Nat) (a0 : ByteArray) : Option (Bool) := (spec_l1Labels.f k a0).bind fun bt113 => (some bt113.2)
theorem spec_GoodName.mono : ∀ a0 k, LeO (spec_GoodName.f k a0) (spec_GoodName.f (k + 1) a0) := by
  intro a0 k
  unfold spec_GoodName.f
  repeat' first
      | (with_reducible exact spec_l1Labels.mono _ _)
      | (with_reducible exact LeO.refl _)
      | (with_reducible exact LeO.none _)
      | (with_reducible refine LeO.ite ?_ ?_)
      | (with_reducible refine LeO.bind ?_ (fun _ => ?_))
      | exact spec_l1Labels.mono _ _
      | exact LeO.none _
      | refine LeO.ite ?_ ?_
      | refine LeO.bind ?_ (fun _ => ?_)
set_option maxHeartbeats 8000000 in
set_option maxRecDepth 100000 in
theorem spec_GoodName.calls (k : Nat) (a0 : ByteArray) (r : Bool) (w : World) (h : spec_GoodName.f k a0 = some r) :
    Calls Tryd.prog 11 #[.string a0] w fun e w' => e = .returned (.bool r) ∧ Below w.heap.size w w' := by
  have HB := Aside0.mk (Below.refl w.heap.size w)
  have H : ((spec_l1Labels.f k a0).bind fun bt113 => (some bt113.2)) = some r := h
  clear h
  replace H := Option.bind_eq_some_iff.mp H
  obtain ⟨⟨t113, t114⟩, A20, H⟩ := H
  replace H : (some t114) = some r := H
  have A2 := Aside0.mk A20
  clear A20
  obtain rfl := Option.some.inj H
  go_enter Tryd.func11, Tryd.ntmps11
  go_wp2_with (first | ((with_reducible refine gate_callee (f := 30) rfl ?_); refine goesL_ (some 7) rfl rfl Tryd.func30 (by kernel_rfl) rfl #[.string a0] rfl (by (try simp only [List.map_toArray, List.map_cons, List.map_nil]); first | done | rfl | (simp only [List.length_drop, List.length_take]; rfl)) ?_; (with_reducible refine (spec_l1Labels.calls k a0 t113 t114 _ A2.out).mono ?_); rintro e w3 ⟨v115, rfl, ho0, hb⟩; refine ⟨_, rfl, ?_⟩; have n0_ := Aside0.mk (Kd.R_lower ho0 (below_size (by repeat (first | (with_reducible first | exact HB.out | apply below_alloc | apply pw_below_drewN | apply below_drew1) | exact HB.out)))); have n1_ := Aside0.mk (below_step (by repeat (first | (with_reducible first | exact HB.out | apply below_alloc | apply pw_below_drewN | apply below_drew1) | exact HB.out)) hb); clear HB; have HO116 := n0_; have HB := n1_; clear n0_ n1_; (try clear hb); (try clear hb2); (try clear hk); (try clear hi); (try clear ho0)))
  go_ret
  exact ⟨by first | rfl | (simp [errW_none, errW_some] <;> rfl) | (simp [*, errW_none, errW_some] <;> rfl), by repeat (first | (with_reducible first | exact HB.out | apply below_alloc | apply pw_below_drewN | apply below_drew1) | exact HB.out)⟩

end Go.Proofs.YtafbacogfakdiaaDoor.P

-- PureBelow
/- One name below another, and the name behind the first label: the reference and the program return the same. Conditions: the texts' sizes. -/
namespace Go.Proofs.YtafbacogfakdiaaDoor.Pure
open Go.RowKit Go.Proofs.YtafbacogfakdiaaDoor.P Go.Proofs.YtafbacogfakdiaaDoorW.PrintWords Go.Proofs.YtafbacogfakdiaaDoorW.PrintLast
set_option linter.unusedVariables false
set_option linter.unusedSimpArgs false

theorem specGood_ev (s : ByteArray) (hs : s.size < 549755813888) : Ev (fun k => spec_GoodName.f k s) (goodL s.data.toList) := by
  obtain ⟨r, h1, h2⟩ := good_ev s hs
  refine Ev.congr (f := fun k => (spec_l1Labels.f k s).bind fun bt => some bt.2) (fun k => rfl) (Ev.bind h1 ?_)
  rw [h2]
  exact Ev.now _
theorem good_size {l : List UInt8} (h : goodL l = true) : l.length ≤ 60 := by
  unfold goodL at h
  simp at h
  exact h.1

/-- Is a text another one, or below it? -/
def belowL (a b : List UInt8) : Bool := b == [] || (a == b || (decide (b.length < a.length) && a.drop (a.length - b.length - 1) == 46 :: b))

theorem specBelow_eq (a b : ByteArray) (ha : a.size < 4611686018427387904) (hb : b.size < 4611686018427387904) : spec_l1Below.f a b = some (belowL a.data.toList b.data.toList) := by
  unfold spec_l1Below.f belowL
  rw [Lib.toList_data, Lib.toList_data]
  by_cases h1 : b.data.toList = []
  · rw [if_pos h1, h1]; rfl
  · rw [if_neg h1, show (b.data.toList == []) = false from beq_eq_false_iff_ne.mpr h1, Bool.false_or]
    by_cases h2 : a.data.toList = b.data.toList
    · rw [if_pos h2, h2]; simp
    · rw [if_neg h2, show (a.data.toList == b.data.toList) = false from beq_eq_false_iff_ne.mpr h2, Bool.false_or, ← size_len, ← size_len]
      have hw : wrap64 ((a.size : Int) - (b.size : Int)) = (a.size : Int) - (b.size : Int) := by unfold wrap64; omega
      rw [hw]
      by_cases h3 : (a.size : Int) - (b.size : Int) > 0
      · have h3' : b.size < a.size := by omega
        have hw2 : wrap64 ((a.size : Int) - (b.size : Int) - 1) = ((a.size - b.size - 1 : Nat) : Int) := by unfold wrap64; omega
        have hi : a.size - b.size - 1 < a.data.toList.length := by rw [← size_len]; omega
        rw [if_pos h3, if_pos (by omega), if_pos (by omega), hw2, decide_eq_true h3', Bool.true_and]
        rw [show ((a.size : Int) - (b.size : Int)).toNat = a.size - b.size by omega, Lib.toList_data, ext_end, mkB_data]
        rw [List.drop_eq_getElem_cons hi, show a.size - b.size - 1 + 1 = a.size - b.size by omega]
        by_cases h4 : List.drop (a.size - b.size) a.data.toList = b.data.toList
        · rw [if_pos h4, if_pos (by omega), if_pos (by omega), bt_list a _ hi, h4]
          generalize a.data.toList[a.size - b.size - 1] = x
          have hx : ((x.toNat : Int) == 46) = (x == 46) := by
            rw [Bool.eq_iff_iff, beq_iff_eq, beq_iff_eq, ← UInt8.toNat_inj]
            exact ⟨fun e => Int.ofNat.inj e, fun e => by rw [e]; rfl⟩
          rw [hx]
          simp
        · rw [if_neg h4, eq_comm]
          congr 1
          rw [beq_eq_false_iff_ne]
          intro e
          exact h4 (List.cons.inj e).2
      · rw [if_neg h3, decide_eq_false (by omega)]
        rfl

theorem implBelow_eq (a b : ByteArray) (ha : a.size < 4611686018427387904) (hb : b.size < 4611686018427387904) : impl_isBelow.f a b = some (belowL a.data.toList b.data.toList) := by
  unfold impl_isBelow.f belowL
  rw [Lib.toList_data, Lib.toList_data]
  by_cases h1 : b.data.toList = []
  · rw [h1]
    by_cases h2 : a.data.toList = []
    · rw [if_pos h2]; rfl
    · rw [if_neg h2, if_pos rfl]; rfl
  · rw [show (b.data.toList == []) = false from beq_eq_false_iff_ne.mpr h1, Bool.false_or]
    by_cases h2 : a.data.toList = b.data.toList
    · rw [if_pos h2, h2]; simp
    · rw [if_neg h2, if_neg h1, if_pos (by omega), show (a.data.toList == b.data.toList) = false from beq_eq_false_iff_ne.mpr h2, Bool.false_or, ← size_len, ← size_len]
      unfold strings_HasSuffix.f stringslite_HasSuffix.f
      have hsz : ((⟨#[46]⟩ : ByteArray) ++ b).size = b.size + 1 := by rw [ByteArray.size_append]; show 1 + b.size = _; omega
      have hdt : ((⟨#[46]⟩ : ByteArray) ++ b).data.toList = 46 :: b.data.toList := by rw [ByteArray.data_append, Array.toList_append]; rfl
      rw [hsz]
      by_cases h3 : b.size < a.size
      · have hw : wrap64 ((a.size : Int) - ((b.size + 1 : Nat) : Int)) = ((a.size - b.size - 1 : Nat) : Int) := by unfold wrap64; omega
        rw [if_pos (by omega), hw, if_pos (by omega), if_pos (by omega), decide_eq_true h3, Bool.true_and, Int.toNat_natCast, ext_end, Lib.toList_data, Lib.toList_data, mkB_data, hdt]
        rfl
      · rw [if_neg (by omega), decide_eq_false h3]
        rfl

/-- What is behind the first dot. -/
def parL : List UInt8 → List UInt8
  | [] => []
  | x :: xs => if x = 46 then xs else parL xs
theorem parL_len (l : List UInt8) : (parL l).length ≤ l.length - 1 := by
  induction l with
  | nil => simp [parL]
  | cons x xs ih =>
    unfold parL
    split
    · simp
    · simp at ih ⊢; omega
theorem parL_hit (p r : List UInt8) (h : ∀ x ∈ p, x ≠ 46) : parL (p ++ 46 :: r) = r := by
  induction p with
  | nil => simp [parL]
  | cons x xs ih => rw [List.cons_append, parL, if_neg (h x List.mem_cons_self), ih fun y hy => h y (List.mem_cons_of_mem _ hy)]
theorem parL_none (l : List UInt8) (h : ∀ x ∈ l, x ≠ 46) : parL l = [] := by
  induction l with
  | nil => rfl
  | cons x xs ih => rw [parL, if_neg (h x List.mem_cons_self), ih fun y hy => h y (List.mem_cons_of_mem _ hy)]

theorem parent_loop (s : ByteArray) (hs : s.size < 1099511627776) : ∀ (m i : Nat), i + m = s.size →
    spec_l1Parent.l0 (m + 1) s (i : Int) = some (mkB (parL (s.data.toList.drop i)))
  | 0, i, him => by
    unfold spec_l1Parent.l0
    rw [if_neg (by omega), List.drop_of_length_le (by rw [← size_len]; omega)]
    rfl
  | m + 1, i, him => by
    have hi : i < s.data.toList.length := by rw [← size_len]; omega
    unfold spec_l1Parent.l0
    rw [if_pos (by omega), if_pos (by omega), w64n (by omega), bt_list s i hi, List.drop_eq_getElem_cons hi]
    unfold parL
    by_cases h : s.data.toList[i] = 46
    · rw [if_pos (by rw [h]; rfl), if_pos h, if_pos (by omega), if_pos (by omega), Int.toNat_natCast, ext_end]
    · rw [if_neg (by intro e; apply h; apply UInt8.toNat_inj.1; simpa using Int.ofNat.inj e), if_neg h, parent_loop s hs m (i + 1) (by omega)]
theorem specParent_ev (s : ByteArray) (hs : s.size < 1099511627776) : Ev (fun k => spec_l1Parent.f k s) (mkB (parL s.data.toList)) := by
  refine Ev.of (fun k => spec_l1Parent.mono _ _) (k := s.size + 1) ?_
  unfold spec_l1Parent.f
  have := parent_loop s hs s.size 0 (by omega)
  simpa using this
theorem implParent_eq (s : ByteArray) (hs : s.size < 4611686018427387904) : impl_parentOf.f s = some (mkB (parL s.data.toList)) := by
  unfold impl_parentOf.f strings_Cut.f stringslite_Cut.f internal_stringslite_Index.f
  rw [if_pos (show (⟨#[46]⟩ : ByteArray).size = 1 from rfl)]
  simp only [Option.bind_some]
  rw [show List.headD (⟨#[46]⟩ : ByteArray).data.toList 0 = 46 from rfl, show (⟨#[46]⟩ : ByteArray).size = 1 from rfl]
  rcases place_or 46 s.data.toList with ⟨h1, h2⟩ | ⟨p, r, h1, h2, h3⟩
  · rw [h1, if_neg (by omega), parL_none _ h2]
    rfl
  · have hl : p.length + (r.length + 1) = s.size := by rw [size_len, h1]; simp
    rw [h3, show (((1 : Nat) : Int)) = 1 from rfl, w64n (by omega), if_pos (by omega), if_pos (by omega), if_pos (by omega), if_pos (by omega), if_pos (by omega), Int.toNat_natCast, Int.toNat_natCast, ext_end]
    simp only [Option.bind_some]
    have hd : s.data.toList.drop (p.length + 1) = r := by rw [h1, ← List.drop_drop, List.drop_left]; rfl
    rw [hd, h1, parL_hit p r h2]
end Go.Proofs.YtafbacogfakdiaaDoor.Pure

-- PureMarkS
/- The laws' own helpers on lists of texts: like lists are found alike, marks that were laid are held. Conditions: the lists' lengths. -/
namespace Go.Proofs.YtafbacogfakdiaaDoor.Pure
open Go.RowKit Go.Proofs.YtafbacogfakdiaaDoor.P Go.Proofs.YtafbacogfakdiaaDoorW.PrintWords Go.Proofs.YtafbacogfakdiaaDoorW.PrintLast
set_option linter.unusedVariables false
set_option linter.unusedSimpArgs false

theorem mS_w {n : Nat} (h : n < 4611686018427387904) : wrap64 ((n : Int) + 1) = ((n + 1 : Nat) : Int) := by unfold wrap64; omega
theorem mS_rd (l : List ByteArray) (i : Nat) (h : i < l.length) : rdOf ByteArray.empty l (i : Int) = l[i] := by
  unfold rdOf
  rw [Int.toNat_natCast, List.getD_eq_getElem?_getD, List.getElem?_eq_getElem h]
  rfl

theorem eqS_loop (l : List ByteArray) (hl : l.length < 1099511627776) : ∀ (m i : Nat), i + m = l.length → laws_eqStringS.l0 (m + 1) l l (i : Int) = some true
  | 0, i, h => by
    unfold laws_eqStringS.l0
    rw [if_neg (by omega)]
  | m + 1, i, h => by
    unfold laws_eqStringS.l0
    rw [if_pos (by omega), if_pos (by omega), if_pos (by omega), if_pos rfl, mS_w (by omega), eqS_loop l hl m (i + 1) (by omega)]
theorem eqS_ev (l : List ByteArray) (hl : l.length < 1099511627776) : Ev (fun k => laws_eqStringS.f k l l) true := by
  refine Ev.of (fun k => laws_eqStringS.mono _ _ _) (k := l.length + 1) ?_
  unfold laws_eqStringS.f
  rw [if_pos rfl]
  exact eqS_loop l hl l.length 0 (by omega)

theorem markT_loop : ∀ (n : Nat) (x : Int) (acc : ByteArray), x ≤ n → acc.size + n < 1099511627776 → ∃ t, Ev (fun k => laws_markText.l0 k x acc) t
  | n, x, acc, hx, ha => by
    by_cases h : x > 0
    · have hw : wrap64 (Int.tdiv x 10) = x / 10 := by
        rw [Int.tdiv_eq_ediv_of_nonneg (by omega)]
        unfold wrap64
        omega
      have hs : ∀ v : Int, (strOfNums [v]).size = 1 := fun v => by rw [strOfNums_size]; rfl
      match n, hx, ha with
      | 0, hx, ha => omega
      | n + 1, hx, ha =>
        obtain ⟨t, ht⟩ := markT_loop n (x / 10) (strOfNums [(wrap64 (48 + (Int.tmod x 10))) % 256] ++ acc) (by omega) (by rw [ByteArray.size_append, hs]; omega)
        refine ⟨t, Ev.step (fun k => ?_) ht⟩
        show laws_markText.l0 (k + 1) x acc = _
        conv => lhs; unfold laws_markText.l0
        rw [if_pos h, Option.bind_some, if_pos (by rw [hs]; omega), hw]
    · refine ⟨(⟨#[109]⟩ : ByteArray) ++ acc, Ev.step (f := fun _ => some _) (fun k => ?_) (Ev.now _)⟩
      show laws_markText.l0 (k + 1) x acc = _
      unfold laws_markText.l0
      rw [if_neg h, if_pos (by omega)]
theorem markT_some (x : Int) (hx : x < 549755813888) : ∃ t, Ev (fun k => laws_markText.f k x) t := by
  by_cases h : x ≤ 0
  · refine ⟨(⟨#[109, 48]⟩ : ByteArray), Ev.congr (fun k => ?_) (Ev.now _)⟩
    unfold laws_markText.f
    rw [if_pos h]
  · obtain ⟨t, ht⟩ := markT_loop x.toNat x (⟨#[]⟩ : ByteArray) (by omega) (by show 0 + x.toNat < _; omega)
    refine ⟨t, Ev.congr (fun k => ?_) ht⟩
    unfold laws_markText.f
    rw [if_neg h]
/-- The text of a mark. -/
noncomputable def markT (x : Int) : ByteArray := if h : x < 549755813888 then (markT_some x h).choose else ⟨#[]⟩
theorem markT_ev (x : Int) (h : x < 549755813888) : Ev (fun k => laws_markText.f k x) (markT x) := by
  unfold markT
  rw [dif_pos h]
  exact (markT_some x h).choose_spec
noncomputable def marks (a n : Nat) : List ByteArray := (List.range n).map fun j => markT ((a + j : Nat) : Int)
theorem marks_len (a n : Nat) : (marks a n).length = n := by simp [marks]

theorem markS_loop (a : Nat) (ha : a < 1000000) : ∀ (m i : Nat) (l : List ByteArray), i + m = l.length → l.length < 274877906944 → l.take i = marks a i →
    Ev (fun k => laws_markStringS.l0 k l ((a + i : Nat) : Int) (i : Int)) (((a + l.length : Nat) : Int), marks a l.length)
  | 0, i, l, h, hl, ht => by
    refine Ev.step (f := fun _ => some _) (fun k => ?_) (Ev.now _)
    show laws_markStringS.l0 (k + 1) l ((a + i : Nat) : Int) (i : Int) = _
    unfold laws_markStringS.l0
    rw [if_neg (by omega), show i = l.length by omega] at *
    rw [List.take_length] at ht
    rw [← ht]
  | m + 1, i, l, h, hl, ht => by
    have ih := markS_loop a ha m (i + 1) (l.set i (markT ((a + i : Nat) : Int))) (by rw [List.length_set]; omega) (by rw [List.length_set]; omega) (by
      rw [List.take_set, List.take_add_one, ht, List.getElem?_eq_getElem (by omega)]
      unfold marks
      rw [List.range_succ, List.map_append]
      simp [List.set_append])
    rw [List.length_set] at ih
    refine Ev.step (f := fun k => (laws_markText.f k ((a + i : Nat) : Int)).bind fun t => laws_markStringS.l0 k (l.set i t) ((a + (i + 1) : Nat) : Int) ((i + 1 : Nat) : Int)) (fun k => ?_) (Ev.bind (markT_ev _ (by omega)) ih)
    show laws_markStringS.l0 (k + 1) l ((a + i : Nat) : Int) (i : Int) = _
    conv => lhs; unfold laws_markStringS.l0
    rw [if_pos (by omega), mS_w (by omega), mS_w (by omega)]
    simp only [if_pos (show 0 ≤ (i : Int) by omega), Int.toNat_natCast]
    rfl
theorem markS_ev (a : Nat) (ha : a < 1000000) (l : List ByteArray) (hl : l.length < 274877906944) : Ev (fun k => laws_markStringS.f k l (a : Int)) (((a + l.length : Nat) : Int), marks a l.length) := by
  have := markS_loop a ha l.length 0 l (by omega) hl (by simp [marks])
  exact this

theorem heldS_loop (a n : Nat) (ha : a < 1000000) (hn : n < 274877906944) : ∀ (m i : Nat), i + m = n →
    Ev (fun k => laws_heldStringS.l0 k (marks a n) ((a + i : Nat) : Int) (i : Int)) ((a + n : Nat) : Int)
  | 0, i, h => by
    refine Ev.step (f := fun _ => some _) (fun k => ?_) (Ev.now _)
    show laws_heldStringS.l0 (k + 1) (marks a n) ((a + i : Nat) : Int) (i : Int) = _
    unfold laws_heldStringS.l0
    rw [marks_len, if_neg (by omega), show i = n by omega]
  | m + 1, i, h => by
    have ih := heldS_loop a n ha hn m (i + 1) (by omega)
    have hg : rdOf ByteArray.empty (marks a n) (i : Int) = markT ((a + i : Nat) : Int) := by
      rw [mS_rd _ _ (by rw [marks_len]; omega)]
      simp [marks]
    refine Ev.step (f := fun k => (laws_markText.f k ((a + i : Nat) : Int)).bind fun t => if (rdOf ByteArray.empty (marks a n) (i : Int)).toList = t.toList then laws_heldStringS.l0 k (marks a n) ((a + (i + 1) : Nat) : Int) ((i + 1 : Nat) : Int) else some (-1)) (fun k => ?_) (Ev.bind (markT_ev _ (by omega)) ?_)
    · show laws_heldStringS.l0 (k + 1) (marks a n) ((a + i : Nat) : Int) (i : Int) = _
      conv => lhs; unfold laws_heldStringS.l0
      rw [marks_len, if_pos (by omega), if_pos (by omega), mS_w (by omega), mS_w (by omega)]
      rfl
    · simp only [hg, if_true]
      exact ih
theorem heldS_ev (a n : Nat) (ha : a < 1000000) (hn : n < 274877906944) : Ev (fun k => laws_heldStringS.f k (marks a n) (a : Int)) ((a + n : Nat) : Int) := by
  have := heldS_loop a n ha hn n 0 (by omega)
  exact this
end Go.Proofs.YtafbacogfakdiaaDoor.Pure
