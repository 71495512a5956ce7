/- FnExactPackedSize: part 26 of 27 of my texts for this claim, joined; the theorem stands in the last. Conditions: none beyond the statement's. -/
import Derived.Test.YtomcfhbmdoomlaaDoorMFnExactPackedSizex0
import Derived.Test.YtomcfhbmdoomlaaDoorMFnExactPackedSizex23
import Derived.Test.YtomcfhbmdoomlaaDoorMFnExactPackedSizex24
-- F22
-- By my own call of the kit's print (wip/tools/pp.py).
namespace Go.Proofs.YtomcfhbmdoomlaaDoor.P
open Go.RowKit Go.Proofs.YtomcfhbmdoomlaaDoorW.PrintWords Go.Proofs.YtomcfhbmdoomlaaDoorW.PrintLast Go.Proofs.YtomcfhbmdoomlaaDoorW.PrintMore
attribute [local go_sem] max2_int min2_int max_two min_two max_three min_three max_four min_four
set_option linter.unusedVariables false
set_option linter.unusedSimpArgs false

/-! ### laws_heldStringS: function 22 -/
def laws_heldStringS.l0 : Nat → List ByteArray → Int → Int → Option (Int)
  | 0, _, _, _ => none
  | k + 1, x0, x1, x5 => if x5 < (x0.length : Int) then (if 0 ≤ x5 then ((laws_markText.f k x1).bind fun t262 => (if (rdOf ByteArray.empty x0 x5).toList = t262.toList then (laws_heldStringS.l0 k x0 (wrap64 (x1 + 1)) (wrap64 (x5 + 1))) else (some (-1)))) else (none)) else (some x1)
def laws_heldStringS.f (k : Nat) (l0 : List ByteArray) (a1 : Int) : Option (Int) := laws_heldStringS.l0 k l0 a1 0
theorem laws_heldStringS.mono_l : ∀ k, (∀ y0 y1 y2, LeO (laws_heldStringS.l0 k y0 y1 y2) (laws_heldStringS.l0 (k + 1) y0 y1 y2))
  | 0 => fun _ _ _ r h => by simp [laws_heldStringS.l0] at h
  | k + 1 => by
    have ih0 := laws_heldStringS.mono_l k
    · intro y0 y1 y2
      unfold laws_heldStringS.l0
      repeat' first
      | (with_reducible exact ih0 _ _ _)
      | (with_reducible exact laws_markText.mono _ _)
      | (with_reducible exact LeO.refl _)
      | (with_reducible exact LeO.none _)
      | (with_reducible refine LeO.ite ?_ ?_)
      | (with_reducible refine LeO.bind ?_ (fun _ => ?_))
      | exact ih0 _ _ _
      | exact laws_markText.mono _ _
      | exact LeO.none _
      | refine LeO.ite ?_ ?_
      | refine LeO.bind ?_ (fun _ => ?_)
theorem laws_heldStringS.mono : ∀ a0 a1 k, LeO (laws_heldStringS.f k a0 a1) (laws_heldStringS.f (k + 1) a0 a1) := by
  intro a0 a1 k
  have ih0 := laws_heldStringS.mono_l k
  unfold laws_heldStringS.f
  repeat' first
      | (with_reducible exact ih0 _ _ _)
      | (with_reducible exact laws_markText.mono _ _)
      | (with_reducible exact LeO.refl _)
      | (with_reducible exact LeO.none _)
      | (with_reducible refine LeO.ite ?_ ?_)
      | (with_reducible refine LeO.bind ?_ (fun _ => ?_))
      | exact ih0 _ _ _
      | exact laws_markText.mono _ _
      | exact LeO.none _
      | refine LeO.ite ?_ ?_
      | refine LeO.bind ?_ (fun _ => ?_)
set_option maxHeartbeats 8000000 in
set_option maxRecDepth 100000 in
theorem laws_heldStringS.calls (k : Nat) (A0 : Option Addr) (c0 : Nat) (l0 : List ByteArray) (a1 : Int) (r : Int) (w : World) (hr0 : Kd.C Kd.string w A0 l0.length l0) (hc0 : l0.length ≤ c0) (h : laws_heldStringS.f k l0 a1 = some r) :
    Calls Tryd.prog 22 #[.slice A0 l0.length c0, .int .i64 a1] w fun e w' => e = .returned (.int .i64 r) ∧ Below w.heap.size w w' := by
  have HR0 := Aside0.mk hr0
  have HC0 := Aside0.mk hc0
  clear hr0 hc0
  have HB := Aside0.mk (Below.refl w.heap.size w)
  have H : (laws_heldStringS.l0 k l0 a1 0) = some r := h
  clear h
  have H' := Aside0.mk H
  clear H
  go_enter Tryd.func22, Tryd.ntmps22
  go_wp2
  go_loopg [1, 5] k (fun kq v1 v5 w' => ∃ (x1_1 : Int) (x5_1 : Int), v1 = .int .i64 x1_1 ∧ v5 = .int .i64 x5_1 ∧ Aside0 (laws_heldStringS.l0 kq l0 x1_1 x5_1 = some r) ∧ Aside0 (kq ≤ k) ∧ Aside0 (Below w.heap.size w w'))
  case atStart => exact ⟨(a1), (0), (by first | rfl | (simp; done) | (simp [*]; done)), (by first | rfl | (simp; done) | (simp [*]; done)), H', ⟨Nat.le_refl _⟩, ⟨by repeat (first | (with_reducible first | exact HB.out | apply below_alloc | apply pw_below_drewN | apply below_drew1) | exact HB.out)⟩⟩
  case round =>
    clear H'
    try clear c2
    try clear p2
    obtain ⟨x1_1, x5_1, rfl, rfl, HA, HK1, HB⟩ := hrel
    cases gk with
    | zero => exact absurd HA.out (by simp [laws_heldStringS.l0])
    | succ k1 =>
      have H := HA.out
      clear HA
      simp only [laws_heldStringS.l0] at H
      by_cases c3 : x5_1 < (l0.length : Int)
      · rw [if_pos c3] at H
        have c3b0 : decide (x5_1 < (l0.length : Int)) = true := decide_eq_true c3
        clear c3
        by_cases c4 : 0 ≤ x5_1
        · rw [if_pos c4] at H
          have c4b0 : decide (0 ≤ x5_1) = true := decide_eq_true c4
          clear c4
          replace H := Option.bind_eq_some_iff.mp H
          obtain ⟨t262, A50, H⟩ := H
          replace H : (if (rdOf ByteArray.empty l0 x5_1).toList = t262.toList then (laws_heldStringS.l0 k1 l0 (wrap64 (x1_1 + 1)) (wrap64 (x5_1 + 1))) else (some (-1))) = some r := H
          have A5 := Aside0.mk A50
          clear A50
          by_cases c6 : (rdOf ByteArray.empty l0 x5_1).toList = t262.toList
          · rw [if_pos c6] at H
            have c6b0 : ((rdOf ByteArray.empty l0 x5_1).toList == t262.toList) = true := beq_iff_eq.mpr c6
            have c6b1 : ((rdOf ByteArray.empty l0 x5_1).toList != t262.toList) = false := bne_eq_false_iff_eq.mpr c6
            clear c6
            have H' := Aside0.mk H
            clear H
            try go_wp2
            have n0_ := Aside0.mk (below_drew1 HB.out)
            clear HB
            have HB := n0_
            clear n0_
            have p261 : 0 ≤ (x5_1 : Int) := of_decide_eq_true (by first | (with_reducible assumption) | assumption)
            have q261 : x5_1 < (l0.length : Int) := of_decide_eq_true (by first | (with_reducible assumption) | assumption)
            obtain ⟨ad261, e261, hx261_0⟩ := Kd.at_string HR0.out x5_1 p261 q261
            have hw261_0 := hx261_0
            cases e261
            replace hx261_0 := (HB.out.cell (World.block_lt_of_cell? w _ hx261_0)).trans hx261_0
            replace p261 := eq_true p261
            replace q261 := eq_true q261
            refine start_ (n := 7) (S := fun w' => w'.cell? (ad261.add (x5_1).toNat) = some (.string (rdOf ByteArray.empty l0 x5_1))) (ds := []) #[false, false, false, false, false, false, false] (by kernel_rfl) rfl rfl (((HB.out.cell (World.block_lt_of_cell? w _ hw261_0)).trans hw261_0)) (fun hHeld => ?_)
            generalize wr.drew = w7 at HB hx261_0 hHeld ⊢
            refine pure_ (i := 0) (N := some 12) (v := ?_) (a' := ?_) #[true, false, false, false, false, false, false] rfl rfl (by kernel_rfl) (fun _ _ _ h => h) (Or.inl ⟨by rfl, ?_⟩) ?_ ?_
            rotate_left
            · intro w'
              go_simp
              with_reducible rfl
            rotate_left
            · simp only [Act.put, List.setIfInBounds_toArray, List.set_cons_zero, List.set_cons_succ, i64_w, i32_w]
              rfl
            refine pure_ (i := 1) (N := some 13) (v := ?_) (a' := ?_) #[true, true, false, false, false, false, false] rfl rfl (by kernel_rfl) (fun _ _ _ h => h) (Or.inl ⟨by rfl, ?_⟩) ?_ ?_
            rotate_left
            · intro w'
              go_simp
              with_reducible rfl
            rotate_left
            · simp only [Act.put, List.setIfInBounds_toArray, List.set_cons_zero, List.set_cons_succ, i64_w, i32_w]
              rfl
            refine pure_ (i := 2) (N := some 14) (v := ?_) (a' := ?_) #[true, true, true, false, false, false, false] rfl rfl (by kernel_rfl) (fun _ _ _ h => h) (Or.inl ⟨by rfl, ?_⟩) ?_ ?_
            rotate_left
            · intro w'
              go_simp
              with_reducible rfl
            rotate_left
            · simp only [Act.put, List.setIfInBounds_toArray, List.set_cons_zero, List.set_cons_succ, i64_w, i32_w]
              rfl
            refine pure_ (i := 4) (N := some 16) (v := ?_) (a' := ?_) #[true, true, true, false, true, false, false] rfl rfl (by kernel_rfl) (fun _ _ _ h => h) (Or.inl ⟨by rfl, ?_⟩) ?_ ?_
            rotate_left
            · intro w'
              go_simp
              with_reducible rfl
            rotate_left
            · simp only [Act.put, List.setIfInBounds_toArray, List.set_cons_zero, List.set_cons_succ, i64_w, i32_w]
              rfl
            refine take_ (i := 3) (N := some 15) (v := ?_) (a' := ?_) #[true, true, true, true, true, false, false] rfl rfl (by kernel_rfl) (fun _ _ _ h => h) (Or.inl ⟨by rfl, ?_⟩) hHeld ?_ ?_
            rotate_left
            · intro w' s0
              go_simp
              with_reducible rfl
            rotate_left
            · simp only [Act.put, List.setIfInBounds_toArray, List.set_cons_zero, List.set_cons_succ, i64_w, i32_w]
              rfl
            refine one_ (i := 5) (N := some 17) #[true, true, true, true, true, true, false] rfl rfl (by kernel_rfl) (by decide) (fun K hK => ?_)
            refine goes_ Tryd.func46 (by kernel_rfl) rfl #[.int .i64 x1_1] (by rfl) rfl rfl (by (try simp only [List.map_toArray, List.map_cons, List.map_nil]); first | done | rfl | (simp only [List.length_drop, List.length_take]; rfl)) ?_
            with_reducible refine (laws_markText.calls k1 x1_1 t262 _ A5.out).mono ?_
            rintro e w8 ⟨rfl, hb⟩
            refine ⟨_, rfl, ?_⟩
            have n0_ := Aside0.mk (below_step (by repeat (first | (with_reducible first | exact HB.out | apply below_alloc | apply pw_below_drewN | apply below_drew1) | exact HB.out)) hb)
            clear HB
            have HB := n0_
            clear n0_
            (try clear hb)
            (try clear hb2)
            (try clear hk)
            (try clear hi)
            refine hK.out _ _ (((HB.out.cell (World.block_lt_of_cell? w _ hw261_0)).trans hw261_0)) (fun hHeld => ?_)
            clear hK K
            refine norm_ (a' := ?_) ?_ ?_
            rotate_left
            · show Act.put _ (some 17) _ = _
              simp only [Act.put, List.setIfInBounds_toArray, List.set_cons_zero, List.set_cons_succ, i64_w, i32_w]
              rfl
            refine pure_ (i := 6) (N := some 18) (v := ?_) (a' := ?_) #[true, true, true, true, true, true, true] rfl rfl (by kernel_rfl) (fun _ _ _ h => h) (Or.inl ⟨by rfl, ?_⟩) ?_ ?_
            rotate_left
            · intro w'
              go_simp
              with_reducible rfl
            rotate_left
            · simp only [Act.put, List.setIfInBounds_toArray, List.set_cons_zero, List.set_cons_succ, i64_w, i32_w]
              rfl
            refine done_ (by kernel_rfl) ?_
            try go_wp2
            go_roundg k1
            case measure => have := HK1.out; omega
            case rel => exact ⟨(wrap64 (x1_1 + 1)), (wrap64 (x5_1 + 1)), (by first | rfl | (simp; done) | (simp [*]; done)), (by first | rfl | (simp; done) | (simp [*]; done)), H', ⟨by have := HK1.out; omega⟩, ⟨by repeat (first | (with_reducible first | exact HB.out | apply below_alloc | apply pw_below_drewN | apply below_drew1) | exact HB.out)⟩⟩
          · rw [if_neg c6] at H
            have c6b0 : ((rdOf ByteArray.empty l0 x5_1).toList == t262.toList) = false := beq_eq_false_iff_ne.mpr c6
            have c6b1 : ((rdOf ByteArray.empty l0 x5_1).toList != t262.toList) = true := bne_iff_ne.mpr c6
            obtain rfl := Option.some.inj H
            try go_wp2
            have n0_ := Aside0.mk (below_drew1 HB.out)
            clear HB
            have HB := n0_
            clear n0_
            have p261 : 0 ≤ (x5_1 : Int) := of_decide_eq_true (by first | (with_reducible assumption) | assumption)
            have q261 : x5_1 < (l0.length : Int) := of_decide_eq_true (by first | (with_reducible assumption) | assumption)
            obtain ⟨ad261, e261, hx261_0⟩ := Kd.at_string HR0.out x5_1 p261 q261
            have hw261_0 := hx261_0
            cases e261
            replace hx261_0 := (HB.out.cell (World.block_lt_of_cell? w _ hx261_0)).trans hx261_0
            replace p261 := eq_true p261
            replace q261 := eq_true q261
            refine start_ (n := 7) (S := fun w' => w'.cell? (ad261.add (x5_1).toNat) = some (.string (rdOf ByteArray.empty l0 x5_1))) (ds := []) #[false, false, false, false, false, false, false] (by kernel_rfl) rfl rfl (((HB.out.cell (World.block_lt_of_cell? w _ hw261_0)).trans hw261_0)) (fun hHeld => ?_)
            generalize wr.drew = w9 at HB hx261_0 hHeld ⊢
            refine pure_ (i := 0) (N := some 12) (v := ?_) (a' := ?_) #[true, false, false, false, false, false, false] rfl rfl (by kernel_rfl) (fun _ _ _ h => h) (Or.inl ⟨by rfl, ?_⟩) ?_ ?_
            rotate_left
            · intro w'
              go_simp
              with_reducible rfl
            rotate_left
            · simp only [Act.put, List.setIfInBounds_toArray, List.set_cons_zero, List.set_cons_succ, i64_w, i32_w]
              rfl
            refine pure_ (i := 1) (N := some 13) (v := ?_) (a' := ?_) #[true, true, false, false, false, false, false] rfl rfl (by kernel_rfl) (fun _ _ _ h => h) (Or.inl ⟨by rfl, ?_⟩) ?_ ?_
            rotate_left
            · intro w'
              go_simp
              with_reducible rfl
            rotate_left
            · simp only [Act.put, List.setIfInBounds_toArray, List.set_cons_zero, List.set_cons_succ, i64_w, i32_w]
              rfl
            refine pure_ (i := 2) (N := some 14) (v := ?_) (a' := ?_) #[true, true, true, false, false, false, false] rfl rfl (by kernel_rfl) (fun _ _ _ h => h) (Or.inl ⟨by rfl, ?_⟩) ?_ ?_
            rotate_left
            · intro w'
              go_simp
              with_reducible rfl
            rotate_left
            · simp only [Act.put, List.setIfInBounds_toArray, List.set_cons_zero, List.set_cons_succ, i64_w, i32_w]
              rfl
            refine pure_ (i := 4) (N := some 16) (v := ?_) (a' := ?_) #[true, true, true, false, true, false, false] rfl rfl (by kernel_rfl) (fun _ _ _ h => h) (Or.inl ⟨by rfl, ?_⟩) ?_ ?_
            rotate_left
            · intro w'
              go_simp
              with_reducible rfl
            rotate_left
            · simp only [Act.put, List.setIfInBounds_toArray, List.set_cons_zero, List.set_cons_succ, i64_w, i32_w]
              rfl
            refine take_ (i := 3) (N := some 15) (v := ?_) (a' := ?_) #[true, true, true, true, true, false, false] rfl rfl (by kernel_rfl) (fun _ _ _ h => h) (Or.inl ⟨by rfl, ?_⟩) hHeld ?_ ?_
            rotate_left
            · intro w' s0
              go_simp
              with_reducible rfl
            rotate_left
            · simp only [Act.put, List.setIfInBounds_toArray, List.set_cons_zero, List.set_cons_succ, i64_w, i32_w]
              rfl
            refine one_ (i := 5) (N := some 17) #[true, true, true, true, true, true, false] rfl rfl (by kernel_rfl) (by decide) (fun K hK => ?_)
            refine goes_ Tryd.func46 (by kernel_rfl) rfl #[.int .i64 x1_1] (by rfl) rfl rfl (by (try simp only [List.map_toArray, List.map_cons, List.map_nil]); first | done | rfl | (simp only [List.length_drop, List.length_take]; rfl)) ?_
            with_reducible refine (laws_markText.calls k1 x1_1 t262 _ A5.out).mono ?_
            rintro e w10 ⟨rfl, hb⟩
            refine ⟨_, rfl, ?_⟩
            have n0_ := Aside0.mk (below_step (by repeat (first | (with_reducible first | exact HB.out | apply below_alloc | apply pw_below_drewN | apply below_drew1) | exact HB.out)) hb)
            clear HB
            have HB := n0_
            clear n0_
            (try clear hb)
            (try clear hb2)
            (try clear hk)
            (try clear hi)
            refine hK.out _ _ (((HB.out.cell (World.block_lt_of_cell? w _ hw261_0)).trans hw261_0)) (fun hHeld => ?_)
            clear hK K
            refine norm_ (a' := ?_) ?_ ?_
            rotate_left
            · show Act.put _ (some 17) _ = _
              simp only [Act.put, List.setIfInBounds_toArray, List.set_cons_zero, List.set_cons_succ, i64_w, i32_w]
              rfl
            refine pure_ (i := 6) (N := some 18) (v := ?_) (a' := ?_) #[true, true, true, true, true, true, true] rfl rfl (by kernel_rfl) (fun _ _ _ h => h) (Or.inl ⟨by rfl, ?_⟩) ?_ ?_
            rotate_left
            · intro w'
              go_simp
              with_reducible rfl
            rotate_left
            · simp only [Act.put, List.setIfInBounds_toArray, List.set_cons_zero, List.set_cons_succ, i64_w, i32_w]
              rfl
            refine done_ (by kernel_rfl) ?_
            try go_wp2
            go_ret
            exact ⟨by first | rfl | (simp [errW_none, errW_some] <;> rfl) | (simp [*, errW_none, errW_some] <;> rfl), by repeat (first | (with_reducible first | exact HB.out | apply below_alloc | apply pw_below_drewN | apply below_drew1) | exact HB.out)⟩
        · rw [if_neg c4] at H
          exact absurd H (by simp)
      · rw [if_neg c3] at H
        have c3b0 : decide (x5_1 < (l0.length : Int)) = false := decide_eq_false c3
        clear c3
        obtain rfl := Option.some.inj H
        go_wp2
        go_ret
        exact ⟨by first | rfl | (simp [errW_none, errW_some] <;> rfl) | (simp [*, errW_none, errW_some] <;> rfl), by repeat (first | (with_reducible first | exact HB.out | apply below_alloc | apply pw_below_drewN | apply below_drew1) | exact HB.out)⟩

end Go.Proofs.YtomcfhbmdoomlaaDoor.P

-- PureMarkS
/- The laws' own helpers on lists of texts: like lists are found alike, marks that were laid are held. Conditions: the lists' lengths. -/
namespace Go.Proofs.YtomcfhbmdoomlaaDoor.Pure
open Go.RowKit Go.Proofs.YtomcfhbmdoomlaaDoor.P Go.Proofs.YtomcfhbmdoomlaaDoorW.PrintWords Go.Proofs.YtomcfhbmdoomlaaDoorW.PrintLast
set_option linter.unusedVariables false
set_option linter.unusedSimpArgs false

theorem mS_w {n : Nat} (h : n < 4611686018427387904) : wrap64 ((n : Int) + 1) = ((n + 1 : Nat) : Int) := by unfold wrap64; omega
theorem mS_rd (l : List ByteArray) (i : Nat) (h : i < l.length) : rdOf ByteArray.empty l (i : Int) = l[i] := by
  unfold rdOf
  rw [Int.toNat_natCast, List.getD_eq_getElem?_getD, List.getElem?_eq_getElem h]
  rfl

theorem eqS_loop (l : List ByteArray) (hl : l.length < 1099511627776) : ∀ (m i : Nat), i + m = l.length → laws_eqStringS.l0 (m + 1) l l (i : Int) = some true
  | 0, i, h => by
    unfold laws_eqStringS.l0
    rw [if_neg (by omega)]
  | m + 1, i, h => by
    unfold laws_eqStringS.l0
    rw [if_pos (by omega), if_pos (by omega), if_pos (by omega), if_pos rfl, mS_w (by omega), eqS_loop l hl m (i + 1) (by omega)]
theorem eqS_ev (l : List ByteArray) (hl : l.length < 1099511627776) : Ev (fun k => laws_eqStringS.f k l l) true := by
  refine Ev.of (fun k => laws_eqStringS.mono _ _ _) (k := l.length + 1) ?_
  unfold laws_eqStringS.f
  rw [if_pos rfl]
  exact eqS_loop l hl l.length 0 (by omega)

theorem markT_loop : ∀ (n : Nat) (x : Int) (acc : ByteArray), x ≤ n → acc.size + n < 1099511627776 → ∃ t, Ev (fun k => laws_markText.l0 k x acc) t
  | n, x, acc, hx, ha => by
    by_cases h : x > 0
    · have hw : wrap64 (Int.tdiv x 10) = x / 10 := by
        rw [Int.tdiv_eq_ediv_of_nonneg (by omega)]
        unfold wrap64
        omega
      have hs : ∀ v : Int, (strOfNums [v]).size = 1 := fun v => by rw [strOfNums_size]; rfl
      match n, hx, ha with
      | 0, hx, ha => omega
      | n + 1, hx, ha =>
        obtain ⟨t, ht⟩ := markT_loop n (x / 10) (strOfNums [(wrap64 (48 + (Int.tmod x 10))) % 256] ++ acc) (by omega) (by rw [ByteArray.size_append, hs]; omega)
        refine ⟨t, Ev.step (fun k => ?_) ht⟩
        show laws_markText.l0 (k + 1) x acc = _
        conv => lhs; unfold laws_markText.l0
        rw [if_pos h, Option.bind_some, if_pos (by rw [hs]; omega), hw]
    · refine ⟨(⟨#[109]⟩ : ByteArray) ++ acc, Ev.step (f := fun _ => some _) (fun k => ?_) (Ev.now _)⟩
      show laws_markText.l0 (k + 1) x acc = _
      unfold laws_markText.l0
      rw [if_neg h, if_pos (by omega)]
theorem markT_some (x : Int) (hx : x < 549755813888) : ∃ t, Ev (fun k => laws_markText.f k x) t := by
  by_cases h : x ≤ 0
  · refine ⟨(⟨#[109, 48]⟩ : ByteArray), Ev.congr (fun k => ?_) (Ev.now _)⟩
    unfold laws_markText.f
    rw [if_pos h]
  · obtain ⟨t, ht⟩ := markT_loop x.toNat x (⟨#[]⟩ : ByteArray) (by omega) (by show 0 + x.toNat < _; omega)
    refine ⟨t, Ev.congr (fun k => ?_) ht⟩
    unfold laws_markText.f
    rw [if_neg h]
/-- The text of a mark. -/
noncomputable def markT (x : Int) : ByteArray := if h : x < 549755813888 then (markT_some x h).choose else ⟨#[]⟩
theorem markT_ev (x : Int) (h : x < 549755813888) : Ev (fun k => laws_markText.f k x) (markT x) := by
  unfold markT
  rw [dif_pos h]
  exact (markT_some x h).choose_spec
noncomputable def marks (a n : Nat) : List ByteArray := (List.range n).map fun j => markT ((a + j : Nat) : Int)
theorem marks_len (a n : Nat) : (marks a n).length = n := by simp [marks]

theorem markS_loop (a : Nat) (ha : a < 1000000) : ∀ (m i : Nat) (l : List ByteArray), i + m = l.length → l.length < 274877906944 → l.take i = marks a i →
    Ev (fun k => laws_markStringS.l0 k l ((a + i : Nat) : Int) (i : Int)) (((a + l.length : Nat) : Int), marks a l.length)
  | 0, i, l, h, hl, ht => by
    refine Ev.step (f := fun _ => some _) (fun k => ?_) (Ev.now _)
    show laws_markStringS.l0 (k + 1) l ((a + i : Nat) : Int) (i : Int) = _
    unfold laws_markStringS.l0
    rw [if_neg (by omega), show i = l.length by omega] at *
    rw [List.take_length] at ht
    rw [← ht]
  | m + 1, i, l, h, hl, ht => by
    have ih := markS_loop a ha m (i + 1) (l.set i (markT ((a + i : Nat) : Int))) (by rw [List.length_set]; omega) (by rw [List.length_set]; omega) (by
      rw [List.take_set, List.take_add_one, ht, List.getElem?_eq_getElem (by omega)]
      unfold marks
      rw [List.range_succ, List.map_append]
      simp [List.set_append])
    rw [List.length_set] at ih
    refine Ev.step (f := fun k => (laws_markText.f k ((a + i : Nat) : Int)).bind fun t => laws_markStringS.l0 k (l.set i t) ((a + (i + 1) : Nat) : Int) ((i + 1 : Nat) : Int)) (fun k => ?_) (Ev.bind (markT_ev _ (by omega)) ih)
    show laws_markStringS.l0 (k + 1) l ((a + i : Nat) : Int) (i : Int) = _
    conv => lhs; unfold laws_markStringS.l0
    rw [if_pos (by omega), mS_w (by omega), mS_w (by omega)]
    simp only [if_pos (show 0 ≤ (i : Int) by omega), Int.toNat_natCast]
    rfl
theorem markS_ev (a : Nat) (ha : a < 1000000) (l : List ByteArray) (hl : l.length < 274877906944) : Ev (fun k => laws_markStringS.f k l (a : Int)) (((a + l.length : Nat) : Int), marks a l.length) := by
  have := markS_loop a ha l.length 0 l (by omega) hl (by simp [marks])
  exact this

theorem heldS_loop (a n : Nat) (ha : a < 1000000) (hn : n < 274877906944) : ∀ (m i : Nat), i + m = n →
    Ev (fun k => laws_heldStringS.l0 k (marks a n) ((a + i : Nat) : Int) (i : Int)) ((a + n : Nat) : Int)
  | 0, i, h => by
    refine Ev.step (f := fun _ => some _) (fun k => ?_) (Ev.now _)
    show laws_heldStringS.l0 (k + 1) (marks a n) ((a + i : Nat) : Int) (i : Int) = _
    unfold laws_heldStringS.l0
    rw [marks_len, if_neg (by omega), show i = n by omega]
  | m + 1, i, h => by
    have ih := heldS_loop a n ha hn m (i + 1) (by omega)
    have hg : rdOf ByteArray.empty (marks a n) (i : Int) = markT ((a + i : Nat) : Int) := by
      rw [mS_rd _ _ (by rw [marks_len]; omega)]
      simp [marks]
    refine Ev.step (f := fun k => (laws_markText.f k ((a + i : Nat) : Int)).bind fun t => if (rdOf ByteArray.empty (marks a n) (i : Int)).toList = t.toList then laws_heldStringS.l0 k (marks a n) ((a + (i + 1) : Nat) : Int) ((i + 1 : Nat) : Int) else some (-1)) (fun k => ?_) (Ev.bind (markT_ev _ (by omega)) ?_)
    · show laws_heldStringS.l0 (k + 1) (marks a n) ((a + i : Nat) : Int) (i : Int) = _
      conv => lhs; unfold laws_heldStringS.l0
      rw [marks_len, if_pos (by omega), if_pos (by omega), mS_w (by omega), mS_w (by omega)]
      rfl
    · simp only [hg, if_true]
      exact ih
theorem heldS_ev (a n : Nat) (ha : a < 1000000) (hn : n < 274877906944) : Ev (fun k => laws_heldStringS.f k (marks a n) (a : Int)) ((a + n : Nat) : Int) := by
  have := heldS_loop a n ha hn n 0 (by omega)
  exact this
end Go.Proofs.YtomcfhbmdoomlaaDoor.Pure
