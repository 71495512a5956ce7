/- FnPointers: part 26 of 27 of my texts for this claim, joined; the theorem stands in the last. Conditions: none beyond the statement's. -/
import Derived.Test.YtomcfhbmdoomlaaDoorMFnPointersx2
import Derived.Test.YtomcfhbmdoomlaaDoorMFnPointersx4
import Derived.Test.YtomcfhbmdoomlaaDoorMFnPointersx5
import Derived.Test.YtomcfhbmdoomlaaDoorMFnPointersx18
import Derived.Test.YtomcfhbmdoomlaaDoorMFnPointersx12
import Derived.Laws.BitsAllLaws
import Derived.Test.YtomcfhbmdoomlaaDoorMFnPointersx14
import Derived.Test.YtomcfhbmdoomlaaDoorMFnPointersx23
-- F52
-- By my own call of the kit's print (wip/tools/pp.py).
namespace Go.Proofs.YtomcfhbmdoomlaaDoor.P
open Go.RowKit Go.Proofs.YtomcfhbmdoomlaaDoorW.PrintWords Go.Proofs.YtomcfhbmdoomlaaDoorW.PrintLast Go.Proofs.YtomcfhbmdoomlaaDoorW.PrintMore
attribute [local go_sem] max2_int min2_int max_two min_two max_three min_three max_four min_four
set_option linter.unusedVariables false
set_option linter.unusedSimpArgs false

/-! ### spec_l2Bytes: function 52 -/
def spec_l2Bytes.l0 : Nat → ByteArray → List ByteArray → Int → Int → Option (ByteArray)
  | 0, _, _, _, _ => none
  | k + 1, x5, x13, x14, x15 => if x15 < x14 then (if 0 ≤ x15 then (if x15 < (x13.length : Int) then ((some (([(((rdOf ByteArray.empty x13 x15).size : Int)) % 256] : List Int) : List Int)).bind fun y330 => (if (strOfNums y330).size + (rdOf ByteArray.empty x13 x15).size ≤ 9223372036854775807 then (if x5.size + ((strOfNums y330) ++ (rdOf ByteArray.empty x13 x15)).size ≤ 9223372036854775807 then (spec_l2Bytes.l0 k (x5 ++ ((strOfNums y330) ++ (rdOf ByteArray.empty x13 x15))) x13 x14 (wrap64 (x15 + 1))) else (none)) else (none))) else (none)) else (none)) else (if x5.size + 1 ≤ 9223372036854775807 then (some (x5 ++ (⟨#[0]⟩ : ByteArray))) else (none))
def spec_l2Bytes.f (k : Nat) (a0 : ByteArray) : Option (ByteArray) := (spec_l1Labels.f k a0).bind fun bt325 => (spec_l2Bytes.l0 k (⟨#[]⟩ : ByteArray) bt325.1 (bt325.1.length : Int) 0)
theorem spec_l2Bytes.mono_l : ∀ k, (∀ y0 y1 y2 y3, LeO (spec_l2Bytes.l0 k y0 y1 y2 y3) (spec_l2Bytes.l0 (k + 1) y0 y1 y2 y3))
  | 0 => fun _ _ _ _ r h => by simp [spec_l2Bytes.l0] at h
  | k + 1 => by
    have ih0 := spec_l2Bytes.mono_l k
    · intro y0 y1 y2 y3
      unfold spec_l2Bytes.l0
      repeat' first
      | (with_reducible exact ih0 _ _ _ _)
      | (with_reducible exact spec_l1Labels.mono _ _)
      | (with_reducible exact LeO.refl _)
      | (with_reducible exact LeO.none _)
      | (with_reducible refine LeO.ite ?_ ?_)
      | (with_reducible refine LeO.bind ?_ (fun _ => ?_))
      | exact ih0 _ _ _ _
      | exact spec_l1Labels.mono _ _
      | exact LeO.none _
      | refine LeO.ite ?_ ?_
      | refine LeO.bind ?_ (fun _ => ?_)
theorem spec_l2Bytes.mono : ∀ a0 k, LeO (spec_l2Bytes.f k a0) (spec_l2Bytes.f (k + 1) a0) := by
  intro a0 k
  have ih0 := spec_l2Bytes.mono_l k
  unfold spec_l2Bytes.f
  repeat' first
      | (with_reducible exact ih0 _ _ _ _)
      | (with_reducible exact spec_l1Labels.mono _ _)
      | (with_reducible exact LeO.refl _)
      | (with_reducible exact LeO.none _)
      | (with_reducible refine LeO.ite ?_ ?_)
      | (with_reducible refine LeO.bind ?_ (fun _ => ?_))
      | exact ih0 _ _ _ _
      | exact spec_l1Labels.mono _ _
      | exact LeO.none _
      | refine LeO.ite ?_ ?_
      | refine LeO.bind ?_ (fun _ => ?_)
set_option maxHeartbeats 8000000 in
set_option maxRecDepth 100000 in
theorem spec_l2Bytes.calls (k : Nat) (a0 : ByteArray) (r : ByteArray) (w : World) (h : spec_l2Bytes.f k a0 = some r) :
    Calls Tryd.prog 52 #[.string a0] w fun e w' => e = .returned (.string r) ∧ Below w.heap.size w w' := by
  have HB := Aside0.mk (Below.refl w.heap.size w)
  have H : ((spec_l1Labels.f k a0).bind fun bt325 => (spec_l2Bytes.l0 k (⟨#[]⟩ : ByteArray) bt325.1 (bt325.1.length : Int) 0)) = some r := h
  clear h
  replace H := Option.bind_eq_some_iff.mp H
  obtain ⟨⟨t325, t326⟩, A20, H⟩ := H
  replace H : (spec_l2Bytes.l0 k (⟨#[]⟩ : ByteArray) t325 (t325.length : Int) 0) = some r := H
  have A2 := Aside0.mk A20
  clear A20
  have H' := Aside0.mk H
  clear H
  go_enter Tryd.func52, Tryd.ntmps52
  go_wp2_with (first | ((with_reducible refine gate_callee (f := 67) rfl ?_); refine goesL_ (some 10) rfl rfl Tryd.func67 (by kernel_rfl) rfl #[.string a0] rfl (by (try simp only [List.map_toArray, List.map_cons, List.map_nil]); first | done | rfl | (simp only [List.length_drop, List.length_take]; rfl)) ?_; (with_reducible refine (spec_l1Labels.calls k a0 t325 t326 _ A2.out).mono ?_); rintro e w3 ⟨v327, rfl, ho0, hb⟩; refine ⟨_, rfl, ?_⟩; have n0_ := Aside0.mk (Kd.R_lower ho0 (below_size (by repeat (first | (with_reducible first | exact HB.out | apply below_alloc | apply pw_below_drewN | apply below_drew1) | exact HB.out)))); have n1_ := Aside0.mk (below_step (by repeat (first | (with_reducible first | exact HB.out | apply below_alloc | apply pw_below_drewN | apply below_drew1) | exact HB.out)) hb); clear HB; have HO328 := n0_; have HB := n1_; clear n0_ n1_; (try clear hb); (try clear hb2); (try clear hk); (try clear hi); (try clear ho0); obtain ⟨Ao4, co4, eo4⟩ := Kd.R_slice HO328.out; subst eo4))
  go_loopg [5, 15] k (fun kq v5 v15 w' => ∃ (x5_1 : ByteArray) (x15_1 : Int), v5 = .string x5_1 ∧ v15 = .int .i64 x15_1 ∧ Aside0 (spec_l2Bytes.l0 kq x5_1 t325 (t325.length : Int) x15_1 = some r) ∧ Aside0 (kq ≤ k) ∧ Aside0 (Kd.R Kd.string 9 w' w.heap.size (fun _ => True) (.slice Ao4 t325.length co4) t325) ∧ Aside0 (Below w.heap.size w w'))
  case atStart => exact ⟨((⟨#[]⟩ : ByteArray)), (0), (by first | rfl | (simp; done) | (simp [*]; done)), (by first | rfl | (simp; done) | (simp [*]; done)), H', ⟨Nat.le_refl _⟩, ⟨by (with_reducible repeat (first | apply Kd.R_alloc | apply Kd.R_drewN | apply Kd.R_drew)); exact HO328.out⟩, ⟨by repeat (first | (with_reducible first | exact HB.out | apply below_alloc | apply pw_below_drewN | apply below_drew1) | exact HB.out)⟩⟩
  case round =>
    clear H'
    try clear p2
    obtain ⟨x5_1, x15_1, rfl, rfl, HA, HK1, HO_13, HB⟩ := hrel
    cases gk with
    | zero => exact absurd HA.out (by simp [spec_l2Bytes.l0])
    | succ k1 =>
      have H := HA.out
      clear HA
      simp only [spec_l2Bytes.l0] at H
      by_cases c5 : x15_1 < (t325.length : Int)
      · rw [if_pos c5] at H
        have c5b0 : decide (x15_1 < (t325.length : Int)) = true := decide_eq_true c5
        clear c5
        by_cases c6 : 0 ≤ x15_1
        · rw [if_pos c6] at H
          have c6b0 : decide (0 ≤ x15_1) = true := decide_eq_true c6
          clear c6
          by_cases c7 : x15_1 < (t325.length : Int)
          · rw [if_pos c7] at H
            have c7b0 : decide (x15_1 < (t325.length : Int)) = true := decide_eq_true c7
            clear c7
            obtain ⟨y330, hy330⟩ : ∃ y_ : List Int, y_ = (([(((rdOf ByteArray.empty t325 x15_1).size : Int)) % 256] : List Int)) := ⟨_, rfl⟩
            replace H : (if (strOfNums y330).size + (rdOf ByteArray.empty t325 x15_1).size ≤ 9223372036854775807 then (if x5_1.size + ((strOfNums y330) ++ (rdOf ByteArray.empty t325 x15_1)).size ≤ 9223372036854775807 then (spec_l2Bytes.l0 k1 (x5_1 ++ ((strOfNums y330) ++ (rdOf ByteArray.empty t325 x15_1))) t325 (t325.length : Int) (wrap64 (x15_1 + 1))) else (none)) else (none)) = some r := by first | (rw [hy330]; with_reducible exact H) | (have H2_ := (Option.bind_some _ _).symm.trans H; rw [hy330]; with_reducible exact H2_) | (have H2_ := (Option.bind_some _ _).symm.trans H; with_reducible exact H2_) | with_reducible exact H | (rw [hy330]; exact H) | exact H
            have Ny330 := Aside0.mk hy330
            clear hy330
            by_cases c8 : (strOfNums y330).size + (rdOf ByteArray.empty t325 x15_1).size ≤ 9223372036854775807
            · rw [if_pos c8] at H
              have c8b0 := eq_true c8
              have c8b1 : decide ((strOfNums y330).size + (rdOf ByteArray.empty t325 x15_1).size ≤ 9223372036854775807) = true := decide_eq_true c8
              try have c8b2 : (9223372036854775807 < (strOfNums y330).size + (rdOf ByteArray.empty t325 x15_1).size) = False := eq_false (Nat.not_lt.2 c8)
              by_cases c9 : x5_1.size + ((strOfNums y330) ++ (rdOf ByteArray.empty t325 x15_1)).size ≤ 9223372036854775807
              · rw [if_pos c9] at H
                have c9b0 := eq_true c9
                have c9b1 : decide (x5_1.size + ((strOfNums y330) ++ (rdOf ByteArray.empty t325 x15_1)).size ≤ 9223372036854775807) = true := decide_eq_true c9
                try have c9b2 : (9223372036854775807 < x5_1.size + ((strOfNums y330) ++ (rdOf ByteArray.empty t325 x15_1)).size) = False := eq_false (Nat.not_lt.2 c9)
                have H' := Aside0.mk H
                clear H
                have p329 : 0 ≤ (x15_1 : Int) := of_decide_eq_true (by first | (with_reducible assumption) | assumption)
                have q329 : x15_1 < (t325.length : Int) := of_decide_eq_true (by first | (with_reducible assumption) | assumption)
                obtain ⟨ad329, e329, hx329_0⟩ := Kd.at_string (Kd.R_reads' HO_13.out).2.2 x15_1 p329 q329
                cases e329
                replace p329 := eq_true p329
                replace q329 := eq_true q329
                go_wp2_with (first | ((with_reducible refine gate_dst (N := 23) rfl ?_); refine Kd.R_lit (Kd.int .u8) _ 5 ?hg (N := 23) ?hd (xs := ([(((rdOf ByteArray.empty t325 x15_1).size : Int)) % 256] : List Int)) (inner := [.int .u8 ((((rdOf ByteArray.empty t325 x15_1).size : Int)) % 256)]) (ok := fun _ => True) (okp := fun _ => True) ?hr ?hp (fun _ hk => hk) trivial (Below.refl _ _) (Nat.le_refl _) (by simp) ?_; (case hd => rfl); (case hg => rfl); (case hr => first | (go_simp; done) | (go_simp; rfl)); (case hp => exact (Reps.one (show Kd.M (Kd.int .u8) _ _ _ ((((rdOf ByteArray.empty t325 x15_1).size : Int)) % 256) [.int .u8 ((((rdOf ByteArray.empty t325 x15_1).size : Int)) % 256)] from rfl) (Reps.none _ _))); intro v331 w10 ho11 hb hg_ hnew_; clear hg_ hnew_; (first | rw [← Ny330.out] at ho11 | (simp only [Int.reduceToNat] at ho11; rw [← Ny330.out] at ho11)); have n0_ := Aside0.mk (Kd.R_below (by (with_reducible repeat (first | apply Kd.R_alloc | apply Kd.R_drewN | apply Kd.R_drew)); exact HO_13.out) hb); have n1_ := Aside0.mk (Kd.R_lower ho11 (below_size (by repeat (first | (with_reducible first | exact HB.out | apply below_alloc | apply pw_below_drewN | apply below_drew1) | exact HB.out)))); have n2_ := Aside0.mk (below_step (by repeat (first | (with_reducible first | exact HB.out | apply below_alloc | apply pw_below_drewN | apply below_drew1) | exact HB.out)) hb); clear HO_13; clear HB; have HO_13 := n0_; have HO332 := n1_; have HB := n2_; clear n0_ n1_ n2_; clear hb ho11; have hcv12 := own_string (P := Tryd.prog) Tryd.underlying44 Tryd.underlying5 Tryd.underlying9 (Kd.own_of_R HO332.out)))
                go_roundg k1
                case measure => have := HK1.out; omega
                case rel => exact ⟨(x5_1 ++ ((strOfNums y330) ++ (rdOf ByteArray.empty t325 x15_1))), (wrap64 (x15_1 + 1)), (by first | rfl | (simp; done) | (simp [*]; done)), (by first | rfl | (simp; done) | (simp [*]; done)), H', ⟨by have := HK1.out; omega⟩, ⟨by (with_reducible repeat (first | apply Kd.R_alloc | apply Kd.R_drewN | apply Kd.R_drew)); exact HO_13.out⟩, ⟨by repeat (first | (with_reducible first | exact HB.out | apply below_alloc | apply pw_below_drewN | apply below_drew1) | exact HB.out)⟩⟩
              · rw [if_neg c9] at H
                exact absurd H (by simp)
            · rw [if_neg c8] at H
              exact absurd H (by simp)
          · rw [if_neg c7] at H
            exact absurd H (by simp)
        · rw [if_neg c6] at H
          exact absurd H (by simp)
      · rw [if_neg c5] at H
        have c5b0 : decide (x15_1 < (t325.length : Int)) = false := decide_eq_false c5
        clear c5
        by_cases c13 : x5_1.size + 1 ≤ 9223372036854775807
        · rw [if_pos c13] at H
          have c13b0 := eq_true c13
          have c13b1 : decide (x5_1.size + 1 ≤ 9223372036854775807) = true := decide_eq_true c13
          try have c13b2 : (9223372036854775807 < x5_1.size + 1) = False := eq_false (Nat.not_lt.2 c13)
          obtain rfl := Option.some.inj H
          go_wp2
          go_ret
          exact ⟨by first | rfl | (simp [errW_none, errW_some] <;> rfl) | (simp [*, errW_none, errW_some] <;> rfl), by repeat (first | (with_reducible first | exact HB.out | apply below_alloc | apply pw_below_drewN | apply below_drew1) | exact HB.out)⟩
        · rw [if_neg c13] at H
          exact absurd H (by simp)

end Go.Proofs.YtomcfhbmdoomlaaDoor.P

-- PureNB
/- The bytes of a name's labels: the reference's and the program's, and how many they are. Conditions: a good name. -/
namespace Go.Proofs.YtomcfhbmdoomlaaDoor.Pure
open Go.RowKit Go.Proofs.YtomcfhbmdoomlaaDoor.P Go.Proofs.YtomcfhbmdoomlaaDoorW.PrintWords Go.Proofs.YtomcfhbmdoomlaaDoorW.PrintLast
set_option linter.unusedVariables false
set_option linter.unusedSimpArgs false
theorem nb_rd (l : List ByteArray) (i : Nat) (h : i < l.length) : rdOf ByteArray.empty l (i : Int) = l[i] := by
  unfold rdOf
  rw [Int.toNat_natCast, List.getD_eq_getElem?_getD, List.getElem?_eq_getElem h]
  rfl
theorem nb_loops (parts : List ByteArray) (hp : ∀ p ∈ parts, p.size ≤ 1000) (hl : parts.length ≤ 1000) : ∀ (m i : Nat) (acc : ByteArray), i + m = parts.length → acc.size + m * 1024 < 1099511627776 →
    ∃ r, Ev (fun k => impl_labelBytes.l0 k acc parts (parts.length : Int) (i : Int)) r ∧ Ev (fun k => spec_l2Bytes.l0 k acc parts (parts.length : Int) (i : Int)) (r ++ (⟨#[0]⟩ : ByteArray)) ∧ r.size = acc.size + ((parts.drop i).map fun p => 1 + p.size).sum ∧ r.size < 1099511627776
  | 0, i, acc, him, ha => by
    refine ⟨acc, Ev.step (f := fun _ => some acc) (fun k => ?_) (Ev.now _), Ev.step (f := fun _ => some (acc ++ (⟨#[0]⟩ : ByteArray))) (fun k => ?_) (Ev.now _), by rw [List.drop_of_length_le (by omega)]; rfl, by omega⟩
    · show impl_labelBytes.l0 (k + 1) acc parts (parts.length : Int) (i : Int) = _
      unfold impl_labelBytes.l0
      rw [if_neg (by omega)]
    · show spec_l2Bytes.l0 (k + 1) acc parts (parts.length : Int) (i : Int) = _
      unfold spec_l2Bytes.l0
      rw [if_neg (by omega), if_pos (by omega)]
  | m + 1, i, acc, him, ha => by
    have hi : i < parts.length := by omega
    have hs : ∀ v : Int, (strOfNums [v]).size = 1 := fun v => by rw [strOfNums_size]; rfl
    have hpi := hp _ (List.getElem_mem hi)
    obtain ⟨r, h1, h2, h3, h4⟩ := nb_loops parts hp hl m (i + 1) (acc ++ (strOfNums [((parts[i].size : Int)) % 256] ++ parts[i])) (by omega) (by
      rw [ByteArray.size_append, ByteArray.size_append, hs]; omega)
    refine ⟨r, Ev.step (fun k => ?_) h1, Ev.step (fun k => ?_) h2, ?_, h4⟩
    · show impl_labelBytes.l0 (k + 1) acc parts (parts.length : Int) (i : Int) = _
      conv => lhs; unfold impl_labelBytes.l0
      rw [if_pos (by omega), if_pos (by omega), if_pos (by omega), nb_rd _ _ hi, Option.bind_some, if_pos (by rw [hs]; omega), if_pos (by rw [ByteArray.size_append, hs]; omega), w64n (by omega)]
    · show spec_l2Bytes.l0 (k + 1) acc parts (parts.length : Int) (i : Int) = _
      conv => lhs; unfold spec_l2Bytes.l0
      rw [if_pos (by omega), if_pos (by omega), if_pos (by omega), nb_rd _ _ hi, Option.bind_some, if_pos (by rw [hs]; omega), if_pos (by rw [ByteArray.size_append, hs]; omega), w64n (by omega)]
    · rw [h3, ByteArray.size_append, ByteArray.size_append, hs, List.drop_eq_getElem_cons hi, List.map_cons, List.sum_cons]
      omega
theorem split_sum : ∀ l : List UInt8, ((splitL 46 l).map fun p => 1 + p.length).sum = l.length + 1
  | [] => rfl
  | x :: xs => by
    have ih := split_sum xs
    unfold splitL
    split
    · rw [List.map_cons, List.sum_cons, ih, List.length_cons, List.length_nil]
      omega
    · cases hs : splitL 46 xs with
      | nil => exact absurd hs (splitL_ne 46 xs)
      | cons p ps =>
        rw [hs, List.map_cons, List.sum_cons] at ih
        rw [List.map_cons, List.sum_cons, List.length_cons, List.length_cons]
        omega
theorem nb_both (s : ByteArray) (h : goodL s.data.toList = true) : ∃ r, Ev (fun k => impl_labelBytes.f k s) r ∧ Ev (fun k => spec_l2Bytes.f k s) (r ++ (⟨#[0]⟩ : ByteArray)) ∧ r.size = (if s.size = 0 then 0 else s.size + 1) := by
  have hg := good_size h
  have hss := size_len s
  obtain ⟨q, e1, e2, e3⟩ := labels_ev s (by omega)
  have e3 := e3 (e2.trans h)
  have hlen : (labelsL s.data.toList).length ≤ 61 := by
    unfold labelsL
    split
    · simp
    · have := splitL_len 46 s.data.toList; omega
  obtain ⟨r, h1, h2, h3, h4⟩ := nb_loops ((labelsL s.data.toList).map mkB) (by
    intro p hp
    obtain ⟨x, hx, rfl⟩ := List.mem_map.1 hp
    rw [mkB_size]
    unfold labelsL at hx
    split at hx
    · cases hx
    · have := splitL_part 46 _ x hx; omega) (by rw [List.length_map]; omega) _ 0 (⟨#[]⟩ : ByteArray) (Nat.zero_add _) (by rw [List.length_map]; show 0 + _ < _; omega)
  refine ⟨r, ?_, ?_, ?_⟩
  · refine Ev.congr (f := fun k => impl_labelBytes.l0 k (⟨#[]⟩ : ByteArray) ((labelsL s.data.toList).map mkB) (((labelsL s.data.toList).map mkB).length : Int) 0) (fun k => ?_) h1
    unfold impl_labelBytes.f
    rw [labelsOf_eq s (by omega)]
    rfl
  · refine Ev.congr (f := fun k => (spec_l1Labels.f k s).bind fun bt137 => (spec_l2Bytes.l0 k (⟨#[]⟩ : ByteArray) bt137.1 (bt137.1.length : Int) 0)) (fun k => rfl) (Ev.bind e1 ?_)
    rw [e3]
    exact h2
  · rw [h3, List.drop_zero, List.map_map]
    have e : ((fun p : ByteArray => 1 + p.size) ∘ mkB) = fun p => 1 + p.length := by funext p; show 1 + (mkB p).size = _; rw [mkB_size]
    rw [e]
    unfold labelsL
    by_cases h0 : s.data.toList = []
    · rw [if_pos h0, if_pos (by rw [hss, h0]; rfl)]; rfl
    · rw [if_neg h0, if_neg (by rw [hss]; have := List.length_pos_iff.2 h0; omega), split_sum, ← hss]
      show 0 + (s.size + 1) = _
      omega
end Go.Proofs.YtomcfhbmdoomlaaDoor.Pure

-- PureCur
/- What the cursor's steps return, in plain Lean: each answers, within its bounds. Conditions: the bytes are bytes, the place is small. -/
namespace Go.Proofs.YtomcfhbmdoomlaaDoor.Pure
open Go.RowKit Go.Proofs.YtomcfhbmdoomlaaDoor.P Go.Proofs.YtomcfhbmdoomlaaDoorW.PrintWords Go.Proofs.YtomcfhbmdoomlaaDoorW.PrintLast

def Bytes (l : List Int) : Prop := ∀ x ∈ l, 0 ≤ x ∧ x ≤ 255
theorem bytes_of {l : List Int} (h : ∀ x ∈ l, (Lit.int .u8 x).wf = true) : Bytes l := fun x hx => by
  simpa [Lit.wf, IntKind.min, IntKind.max, IntKind.signed, IntKind.bits] using h x hx
theorem bytes_rd {l : List Int} (h : Bytes l) (i : Int) : 0 ≤ rd l i ∧ rd l i ≤ 255 := by
  unfold rd
  rw [List.getD_eq_getElem?_getD]
  cases e : l[i.toNat]? with
  | none => simp
  | some x => exact h x (List.mem_of_getElem? e)

theorem u64_range (x : Int) : 0 ≤ IntKind.u64.wrap x ∧ IntKind.u64.wrap x < 18446744073709551616 := by
  simp [IntKind.wrap, IntKind.bits, IntKind.signed]
  omega

theorem mask (x : Int) : 0 ≤ wrap64 (Go.bits .and .u64 (IntKind.u64.wrap x / 1099511627776) 255) ∧ wrap64 (Go.bits .and .u64 (IntKind.u64.wrap x / 1099511627776) 255) ≤ 255 := by
  have h := u64_range x
  generalize IntKind.u64.wrap x = y at h ⊢
  rw [u64_and _ _ (by omega) (by omega) (by omega) (by omega)]
  have hle : (y / 1099511627776).toNat &&& (255 : Int).toNat ≤ 255 := Nat.and_le_right
  unfold wrap64
  omega

/-- The place of the cursor. -/
def Cur (at_ : Int) (n : Nat) : Prop := 0 ≤ at_ ∧ at_ ≤ n

theorem next_some {l : List Int} (hl : Bytes l) {at_ sd : Int} {n : Nat} (hc : Cur at_ n) (hn : n < 4611686018427387904) :
    ∃ b at2 sd2, spec_l1Cur_next.f l at_ sd = some (b, at2, sd2) ∧ (0 ≤ b ∧ b ≤ 255) ∧ Cur at2 (n + 1) := by
  have hw : wrap64 (at_ + 1) = at_ + 1 := by have := hc.1; have := hc.2; unfold wrap64; omega
  have hc2 : Cur (at_ + 1) (n + 1) := ⟨by have := hc.1; omega, by have := hc.2; omega⟩
  have hb := bytes_rd hl at_
  have hb2 : wrap64 (rd l at_) = rd l at_ := by unfold wrap64; omega
  unfold spec_l1Cur_next.f
  rw [hw]
  by_cases h1 : at_ < (l.length : Int)
  · rw [if_pos h1, if_pos hc.1, if_pos (by omega)]
    exact ⟨_, _, _, rfl, by rw [hb2]; exact hb, hc2⟩
  · rw [if_neg h1]
    by_cases h2 : at_ + 1 ≤ (l.length : Int)
    · omega
    · rw [if_neg h2]
      exact ⟨_, _, _, rfl, mask _, hc2⟩

theorem pick_some {l : List Int} (hl : Bytes l) {at_ sd : Int} {n : Nat} (hc : Cur at_ n) (hn : n < 4611686018427387900) (m : Int) :
    ∃ x at2 sd2, spec_l1Cur_pick.f l at_ sd m = some (x, at2, sd2) ∧ (0 ≤ x ∧ (x = 0 ∨ x < m)) ∧ Cur at2 (n + 2) := by
  unfold spec_l1Cur_pick.f
  by_cases h1 : m ≤ 1
  · rw [if_pos h1]
    exact ⟨_, _, _, rfl, ⟨by omega, .inl rfl⟩, hc.1, by have := hc.2; omega⟩
  · rw [if_neg h1]
    obtain ⟨b, at2, sd2, e, hb, hc2⟩ := next_some hl hc (sd := sd) (by omega)
    rw [e]
    simp only [Option.bind_some]
    have hm0 : ¬ m = 0 := by omega
    by_cases h2 : m > 200
    · rw [if_pos h2]
      obtain ⟨b3, at3, sd3, e3, hb3, hc3⟩ := next_some hl hc2 (sd := sd2) (by omega)
      rw [e3]
      simp only [Option.bind_some]
      rw [if_neg hm0]
      have hw : wrap64 (wrap64 (b * 256) + b3) = b * 256 + b3 := by unfold wrap64; omega
      rw [hw, Int.tmod_eq_emod_of_nonneg (by omega)]
      exact ⟨_, _, _, rfl, ⟨Int.emod_nonneg _ hm0, .inr (Int.emod_lt_of_pos _ (by omega))⟩, hc3⟩
    · rw [if_neg h2, if_neg hm0, Int.tmod_eq_emod_of_nonneg hb.1]
      exact ⟨_, _, _, rfl, ⟨Int.emod_nonneg _ hm0, .inr (Int.emod_lt_of_pos _ (by omega))⟩, hc2.1, by have := hc2.2; omega⟩

end Go.Proofs.YtomcfhbmdoomlaaDoor.Pure

-- PureDrawN
/- The drawn names: each draw answers, with a short text. Conditions: the bytes are bytes. -/
namespace Go.Proofs.YtomcfhbmdoomlaaDoor.Pure
open Go.RowKit Go.Proofs.YtomcfhbmdoomlaaDoor.P Go.Proofs.YtomcfhbmdoomlaaDoorW.PrintWords Go.Proofs.YtomcfhbmdoomlaaDoorW.PrintLast
set_option linter.unusedVariables false
set_option linter.unusedSimpArgs false

theorem of_some {l : List Int} (hl : Bytes l) {at_ sd : Int} {n : Nat} (hc : Cur at_ n) (hn : n < 4611686018427387000) (zs : List ByteArray) (hz : 0 < zs.length) :
    ∃ x at2 sd2, spec_l1Cur_of.f l at_ sd zs = some (x, at2, sd2) ∧ x ∈ zs ∧ Cur at2 (n + 2) := by
  unfold spec_l1Cur_of.f
  obtain ⟨i, at2, sd2, e, hi, hc2⟩ := pick_some hl hc (by omega) (sd := sd) (zs.length : Int)
  rw [e]
  simp only [Option.bind_some]
  have hlt : i < (zs.length : Int) := by omega
  rw [if_pos hi.1, if_pos hlt]
  refine ⟨_, _, _, rfl, ?_, hc2⟩
  have h2 : i.toNat < zs.length := by omega
  rw [rdOf, List.getD_eq_getElem?_getD, List.getElem?_eq_getElem h2]
  exact List.getElem_mem h2
theorem size_le {zs : List ByteArray} {n : Nat} (h : zs.all (fun x => decide (x.size ≤ n)) = true) {x : ByteArray} (hx : x ∈ zs) : x.size ≤ n := by
  have := List.all_eq_true.1 h x hx
  simpa using this
theorem name_loop {l : List Int} (hl : Bytes l) : ∀ (m : Nat) (at_ sd : Int) (n : Nat) (acc : ByteArray), Cur at_ n → n + 2 * m < 4611686018427387000 → acc.size + 4 * m ≤ 1000 → m ≤ 10 →
    ∃ s at2 sd2, spec_l1Cur_name.l0 (m + 1) acc (m : Int) l at_ sd = some (s, at2, sd2) ∧ s.size ≤ acc.size + 4 * m ∧ Cur at2 (n + 2 * m)
  | 0, at_, sd, n, acc, hc, hn, ha, hm => ⟨acc, at_, sd, by unfold spec_l1Cur_name.l0; rw [if_neg (by omega)], by omega, by simpa using hc⟩
  | m + 1, at_, sd, n, acc, hc, hn, ha, hm => by
    obtain ⟨x, at2, sd2, e, hx, hc2⟩ := of_some hl hc (by omega) (sd := sd) ([(⟨#[97]⟩ : ByteArray), (⟨#[98]⟩ : ByteArray), (⟨#[119, 119, 119]⟩ : ByteArray), (⟨#[115, 117, 98]⟩ : ByteArray), (⟨#[42]⟩ : ByteArray), (⟨#[120, 49]⟩ : ByteArray), (⟨#[110, 115]⟩ : ByteArray)] : List ByteArray) (by decide)
    have hsz : x.size ≤ 3 := size_le (by decide) hx
    have h46 : (⟨#[46]⟩ : ByteArray).size = 1 := rfl
    obtain ⟨s, at3, sd3, f, hs, hc3⟩ := name_loop hl m at2 sd2 (n + 2) ((x ++ (⟨#[46]⟩ : ByteArray)) ++ acc) hc2 (by omega) (by rw [ByteArray.size_append, ByteArray.size_append, h46]; omega) (by omega)
    refine ⟨s, at3, sd3, ?_, ?_, ?_⟩
    · conv => lhs; unfold spec_l1Cur_name.l0
      rw [if_pos (by omega), e, Option.bind_some]
      dsimp only
      rw [if_pos (by omega), if_pos (by rw [ByteArray.size_append, h46]; omega), show wrap64 (((m + 1 : Nat) : Int) - 1) = (m : Int) by unfold wrap64; omega]
      exact f
    · rw [ByteArray.size_append, ByteArray.size_append, h46] at hs
      omega
    · rw [show n + 2 * (m + 1) = n + 2 + 2 * m by omega]
      exact hc3
theorem name_some {l : List Int} (hl : Bytes l) {at_ sd : Int} {n : Nat} (hc : Cur at_ n) (hn : n < 4611686018427380000) :
    ∃ s at2 sd2, Ev (fun k => spec_l1Cur_name.f k l at_ sd) (s, at2, sd2) ∧ s.size ≤ 60 ∧ Cur at2 (n + 20) := by
  have up : ∀ {a : Int} {p q : Nat}, Cur a p → p ≤ q → Cur a q := fun h k => ⟨h.1, by have := h.2; omega⟩
  obtain ⟨i, at2, sd2, e, hi, hc2⟩ := pick_some hl hc (by omega) (sd := sd) 40
  by_cases h0 : i = 0
  · obtain ⟨x, at3, sd3, e3, hx, hc3⟩ := of_some hl hc2 (by omega) (sd := sd2) ([(⟨#[]⟩ : ByteArray), (⟨#[46]⟩ : ByteArray), (⟨#[97, 46, 46, 98]⟩ : ByteArray), (⟨#[65]⟩ : ByteArray), (⟨#[97, 46]⟩ : ByteArray), (⟨#[97, 42]⟩ : ByteArray), (⟨#[97, 46, 98, 46, 99, 46, 100, 46, 101, 46, 102, 46, 103, 46, 104]⟩ : ByteArray), (⟨#[97, 46, 98, 46, 99, 46, 100, 46, 101, 46, 102, 46, 103, 46, 104, 46, 105]⟩ : ByteArray), (⟨#[97, 98, 99, 100, 101, 102, 103, 104, 105, 106, 107, 108, 109, 110, 111, 112, 113, 114, 115, 116]⟩ : ByteArray), (⟨#[97, 98, 99, 100, 101, 102, 103, 104, 105, 106, 107, 108, 109, 110, 111, 112, 113, 114, 115, 116, 117]⟩ : ByteArray)] : List ByteArray) (by decide)
    refine ⟨x, at3, sd3, Ev.congr (fun k => ?_) (Ev.now _), size_le (by decide) hx, up hc3 (by omega)⟩
    unfold spec_l1Cur_name.f
    rw [e]
    simp only [Option.bind_some]
    rw [if_pos h0, e3]
    rfl
  · by_cases h1 : i = 1
    · obtain ⟨x, at3, sd3, e3, hx, hc3⟩ := of_some hl hc2 (by omega) (sd := sd2) ([(⟨#[]⟩ : ByteArray), (⟨#[99, 111, 109]⟩ : ByteArray)] : List ByteArray) (by decide)
      refine ⟨x, at3, sd3, Ev.congr (fun k => ?_) (Ev.now _), size_le (by decide) hx, up hc3 (by omega)⟩
      unfold spec_l1Cur_name.f
      rw [e]
      simp only [Option.bind_some]
      rw [if_neg h0, if_pos h1, e3]
      rfl
    · obtain ⟨x, at3, sd3, e3, hx, hc3⟩ := of_some hl hc2 (by omega) (sd := sd2) ([(⟨#[101, 120]⟩ : ByteArray), (⟨#[99, 111, 109]⟩ : ByteArray), (⟨#[101, 120, 46, 99, 111, 109]⟩ : ByteArray), (⟨#[101, 120, 46, 99, 111, 109]⟩ : ByteArray), (⟨#[101, 120, 46, 99, 111, 109]⟩ : ByteArray)] : List ByteArray) (by decide)
      have hsz : x.size ≤ 6 := size_le (by decide) hx
      obtain ⟨j, at4, sd4, e4, hj, hc4⟩ := pick_some hl hc3 (by omega) (sd := sd3) 3
      obtain ⟨m, rfl⟩ : ∃ m : Nat, j = (m : Int) := ⟨j.toNat, by omega⟩
      obtain ⟨s, at5, sd5, e5, hs, hc5⟩ := name_loop hl m at4 sd4 _ x hc4 (by omega) (by omega) (by omega)
      refine ⟨s, at5, sd5, Ev.of (fun k => spec_l1Cur_name.mono _ _ _ _) (k := m + 1) ?_, by omega, up hc5 (by omega)⟩
      unfold spec_l1Cur_name.f
      rw [e]
      simp only [Option.bind_some]
      rw [if_neg h0, if_neg h1, e3]
      simp only [Option.bind_some]
      rw [e4]
      simp only [Option.bind_some]
      exact e5
end Go.Proofs.YtomcfhbmdoomlaaDoor.Pure

-- PureWire
/- The drawn bytes: each draw answers, with a short text. Conditions: the bytes are bytes. -/
namespace Go.Proofs.YtomcfhbmdoomlaaDoor.Pure
open Go.RowKit Go.Proofs.YtomcfhbmdoomlaaDoor.P Go.Proofs.YtomcfhbmdoomlaaDoorW.PrintWords Go.Proofs.YtomcfhbmdoomlaaDoorW.PrintLast
set_option linter.unusedVariables false
set_option linter.unusedSimpArgs false
theorem cur_up {a : Int} {p q : Nat} (h : Cur a p) (k : p ≤ q) : Cur a q := ⟨h.1, by have := h.2; omega⟩
theorem one_some {l : List Int} (hl : Bytes l) {at_ sd : Int} {n : Nat} (hc : Cur at_ n) (hn : n < 4611686018427387900) (m : Int) :
    ∃ x at2 sd2, spec_l1Cur_one.f l at_ sd m = some (x, at2, sd2) ∧ Cur at2 (n + 2) := by
  obtain ⟨i, at2, sd2, e, hi, hc2⟩ := pick_some hl hc hn (sd := sd) m
  exact ⟨_, at2, sd2, by unfold spec_l1Cur_one.f; rw [e]; rfl, hc2⟩
theorem ex_size (x : ByteArray) (a b : Nat) (hb : b ≤ x.size) : (x.extract a b).size = b - a := by
  rw [ByteArray.size_extract]
  omega
theorem spoilt_loop {l : List Int} (hl : Bytes l) (ins : ByteArray) (hins : 0 < ins.size) (hins2 : ins.size ≤ 1000) : ∀ (m : Nat) (at_ sd : Int) (n : Nat) (x : ByteArray), m ≤ 2 → Cur at_ n → n + 100 + 6 * m < 4611686018427386000 → x.size + m ≤ 100000 →
    ∃ s at2 sd2, Ev (fun k => spec_l1Cur_spoilt.l0 k x ins (m : Int) l at_ sd) (s, at2, sd2) ∧ s.size ≤ x.size + m ∧ Cur at2 (n + 6 * m)
  | 0, at_, sd, n, x, hm, hc, hn, hx => by
    refine ⟨x, at_, sd, Ev.step (f := fun k => spec_l1Cur_spoilt.j1 k x ins ((0 : Nat) : Int) false l at_ sd) (fun k => ?_) (Ev.step (f := fun _ => some (x, at_, sd)) (fun k => ?_) (Ev.now _)), by omega, by simpa using hc⟩
    · show spec_l1Cur_spoilt.l0 (k + 1) x ins ((0 : Nat) : Int) l at_ sd = _
      conv => lhs; unfold spec_l1Cur_spoilt.l0
      rw [if_neg (by omega)]
    · show spec_l1Cur_spoilt.j1 (k + 1) x ins ((0 : Nat) : Int) false l at_ sd = _
      conv => lhs; unfold spec_l1Cur_spoilt.j1
      rfl
  | m + 1, at_, sd, n, x, hm, hc, hn, hx => by
    have e0 : ∀ k, spec_l1Cur_spoilt.l0 (k + 1) x ins ((m + 1 : Nat) : Int) l at_ sd = spec_l1Cur_spoilt.j1 k x ins ((m + 1 : Nat) : Int) (decide ((x.size : Int) > 0)) l at_ sd := fun k => by
      conv => lhs; unfold spec_l1Cur_spoilt.l0
      rw [if_pos (by omega)]
    by_cases h0 : (x.size : Int) > 0
    · obtain ⟨i, at2, sd2, e2, hi, hc2⟩ := pick_some hl hc (by omega) (sd := sd) (x.size : Int)
      obtain ⟨j, at3, sd3, e3, hj, hc3⟩ := pick_some hl hc2 (by omega) (sd := sd2) (ins.size : Int)
      obtain ⟨o, at4, sd4, e4, ho, hc4⟩ := pick_some hl hc3 (by omega) (sd := sd3) 3
      obtain ⟨i, rfl⟩ : ∃ i' : Nat, i = (i' : Int) := ⟨i.toNat, by omega⟩
      have hw : wrap64 ((i : Int) + 1) = ((i + 1 : Nat) : Int) := by unfold wrap64; omega
      have hwm : wrap64 (((m + 1 : Nat) : Int) - 1) = (m : Int) := by unfold wrap64; omega
      have hs1 : ∀ v : Int, (strOfNums [v]).size = 1 := fun v => by rw [strOfNums_size]; rfl
      have z1 : (x.extract 0 i).size = i := by rw [ex_size _ _ _ (by omega)]; omega
      have z2 : (x.extract i x.size).size = x.size - i := ex_size _ _ _ (Nat.le_refl _)
      have z3 : (x.extract (i + 1) x.size).size = x.size - (i + 1) := ex_size _ _ _ (Nat.le_refl _)
      have step : ∃ x2 : ByteArray, x2.size ≤ x.size + 1 ∧ ∀ k, spec_l1Cur_spoilt.j1 (k + 1) x ins ((m + 1 : Nat) : Int) true l at_ sd = spec_l1Cur_spoilt.l0 k x2 ins (m : Int) l at4 sd4 := by
        by_cases o0 : o = 0
        · refine ⟨((x.extract 0 i) ++ (strOfNums [bt ins j])) ++ (x.extract i x.size), by rw [ByteArray.size_append, ByteArray.size_append, hs1, z1, z2]; omega, fun k => ?_⟩
          conv => lhs; unfold spec_l1Cur_spoilt.j1
          rw [if_pos rfl, e2, Option.bind_some]
          simp only
          rw [e3, Option.bind_some]
          simp only
          rw [if_pos hj.1, if_pos (by omega), Option.bind_some, e4, Option.bind_some]
          simp only
          rw [if_pos o0, if_pos (by omega), if_pos (by omega), Int.toNat_natCast, if_pos (by rw [hs1, z1]; omega), if_pos (by rw [ByteArray.size_append, hs1, z1, z2]; omega), hwm]
        · by_cases o1 : o = 1
          · refine ⟨((x.extract 0 i) ++ (strOfNums [bt ins j])) ++ (x.extract (i + 1) x.size), by rw [ByteArray.size_append, ByteArray.size_append, hs1, z1, z3]; omega, fun k => ?_⟩
            conv => lhs; unfold spec_l1Cur_spoilt.j1
            rw [if_pos rfl, e2, Option.bind_some]
            simp only
            rw [e3, Option.bind_some]
            simp only
            rw [if_pos hj.1, if_pos (by omega), Option.bind_some, e4, Option.bind_some]
            simp only
            rw [if_neg o0, if_pos o1, if_pos (by omega), if_pos (by omega), Int.toNat_natCast, if_pos (by rw [hs1, z1]; omega), hw, if_pos (by omega), if_pos (by omega), Int.toNat_natCast, if_pos (by rw [ByteArray.size_append, hs1, z1, z3]; omega), hwm]
          · refine ⟨(x.extract 0 i) ++ (x.extract (i + 1) x.size), by rw [ByteArray.size_append, z1, z3]; omega, fun k => ?_⟩
            conv => lhs; unfold spec_l1Cur_spoilt.j1
            rw [if_pos rfl, e2, Option.bind_some]
            simp only
            rw [e3, Option.bind_some]
            simp only
            rw [if_pos hj.1, if_pos (by omega), Option.bind_some, e4, Option.bind_some]
            simp only
            rw [if_neg o0, if_neg o1, if_pos (by omega), if_pos (by omega), hw, if_pos (by omega), if_pos (by omega), Int.toNat_natCast, Int.toNat_natCast, if_pos (by rw [z1, z3]; omega), hwm]
      obtain ⟨x2, hx2, hst⟩ := step
      obtain ⟨s, at5, sd5, f, hs, hc5⟩ := spoilt_loop hl ins hins hins2 m at4 sd4 (n + 6) x2 (by omega) hc4 (by clear hwm; omega) (by clear hwm; omega)
      refine ⟨s, at5, sd5, Ev.step e0 ?_, by omega, cur_up hc5 (by omega)⟩
      rw [decide_eq_true h0]
      exact Ev.step hst f
    · refine ⟨x, at_, sd, Ev.step e0 (Ev.step (f := fun _ => some (x, at_, sd)) (fun k => ?_) (Ev.now _)), by omega, cur_up hc (by omega)⟩
      show spec_l1Cur_spoilt.j1 (k + 1) x ins ((m + 1 : Nat) : Int) (decide ((x.size : Int) > 0)) l at_ sd = _
      rw [decide_eq_false h0]
      conv => lhs; unfold spec_l1Cur_spoilt.j1
      rfl
theorem spoilt_some {l : List Int} (hl : Bytes l) (ins : ByteArray) (hins : 0 < ins.size) (hins2 : ins.size ≤ 1000) {at_ sd : Int} {n : Nat} {x : ByteArray} (hc : Cur at_ n) (hn : n + 200 < 4611686018427386000) (hx : x.size ≤ 1000) :
    ∃ s at2 sd2, Ev (fun k => spec_l1Cur_spoilt.f k l at_ sd x ins) (s, at2, sd2) ∧ s.size ≤ x.size + 2 ∧ Cur at2 (n + 20) := by
  obtain ⟨i, at2, sd2, e, hi, hc2⟩ := pick_some hl hc (by omega) (sd := sd) 3
  obtain ⟨m, rfl⟩ : ∃ m : Nat, i = (m : Int) := ⟨i.toNat, by omega⟩
  obtain ⟨s, at3, sd3, f, hs, hc3⟩ := spoilt_loop hl ins hins hins2 m at2 sd2 (n + 2) x (by omega) hc2 (by omega) (by omega)
  exact ⟨s, at3, sd3, Ev.congr (fun k => by unfold spec_l1Cur_spoilt.f; rw [e]; rfl) f, by omega, cur_up hc3 (by omega)⟩
theorem names_loop {l : List Int} (hl : Bytes l) : ∀ (m : Nat) (at_ sd : Int) (n : Nat) (acc : List ByteArray), Cur at_ n → n + 30 * m < 4611686018427380000 → acc.length + m ≤ 100 → (∀ x ∈ acc, x.size ≤ 60) →
    ∃ r at2 sd2, Ev (fun k => spec_l1Cur_goodNames.l0 k acc (m : Int) l at_ sd) (r, at2, sd2) ∧ r.length = acc.length + m ∧ (∀ x ∈ r, x.size ≤ 60) ∧ Cur at2 (n + 30 * m)
  | 0, at_, sd, n, acc, hc, hn, ha, hx => by
    refine ⟨acc, at_, sd, Ev.step (f := fun _ => some (acc, at_, sd)) (fun k => ?_) (Ev.now _), by omega, hx, by simpa using hc⟩
    show spec_l1Cur_goodNames.l0 (k + 1) acc ((0 : Nat) : Int) l at_ sd = _
    conv => lhs; unfold spec_l1Cur_goodNames.l0
    rw [if_neg (by omega)]
  | m + 1, at_, sd, n, acc, hc, hn, ha, hx => by
    obtain ⟨s, at2, sd2, e, hs, hc2⟩ := name_some hl hc (by omega) (sd := sd)
    have hwm : wrap64 (((m + 1 : Nat) : Int) - 1) = (m : Int) := by unfold wrap64; omega
    have e0 : ∀ k, spec_l1Cur_goodNames.l0 (k + 1) acc ((m + 1 : Nat) : Int) l at_ sd = (spec_l1Cur_name.f k l at_ sd).bind fun bt418 => ((spec_GoodName.f k bt418.1).bind fun t421 => (if t421 = true then (if acc.length < 8796093022208 then (spec_l1Cur_goodNames.l0 k (acc ++ [bt418.1]) (m : Int) l bt418.2.1 bt418.2.2) else (none)) else ((spec_l1Cur_one.f l bt418.2.1 bt418.2.2 4).bind fun bt425 => (if bt425.1 = true then (if acc.length < 8796093022208 then (spec_l1Cur_goodNames.l0 k (acc ++ [bt418.1]) (m : Int) l bt425.2.1 bt425.2.2) else (none)) else (if acc.length < 8796093022208 then (spec_l1Cur_goodNames.l0 k (acc ++ [(⟨#[101, 120, 46, 99, 111, 109]⟩ : ByteArray)]) (m : Int) l bt425.2.1 bt425.2.2) else (none)))))) := fun k => by
      conv => lhs; unfold spec_l1Cur_goodNames.l0
      rw [if_pos (by omega), hwm]
    have more : ∀ (y : ByteArray) (a sd' : Int), y.size ≤ 60 → Cur a (n + 22) → ∃ r at3 sd3, Ev (fun k => spec_l1Cur_goodNames.l0 k (acc ++ [y]) (m : Int) l a sd') (r, at3, sd3) ∧ r.length = acc.length + (m + 1) ∧ (∀ x ∈ r, x.size ≤ 60) ∧ Cur at3 (n + 30 * (m + 1)) := by
      intro y a sd' hy hca
      obtain ⟨r, at3, sd3, f, h1, h2, h3⟩ := names_loop hl m a sd' (n + 22) (acc ++ [y]) hca (by omega) (by simp; omega) (by
        intro z hz
        rcases List.mem_append.1 hz with hz | hz
        · exact hx z hz
        · rw [List.mem_singleton.1 hz]; exact hy)
      exact ⟨r, at3, sd3, f, by simp at h1; omega, h2, cur_up h3 (by omega)⟩
    by_cases hg : goodL s.data.toList = true
    · obtain ⟨r, at3, sd3, f, h1, h2, h3⟩ := more s at2 sd2 hs (cur_up hc2 (by omega))
      refine ⟨r, at3, sd3, Ev.step e0 (Ev.bind e (Ev.bind (specGood_ev s (by omega)) ?_)), h1, h2, h3⟩
      simp only [if_pos hg, if_pos (show acc.length < 8796093022208 by omega)]
      exact f
    · obtain ⟨o, at3, sd3, e3, hc3⟩ := one_some hl hc2 (by omega) (sd := sd2) 4
      by_cases ho : o = true
      · obtain ⟨r, at4, sd4, f, h1, h2, h3⟩ := more s at3 sd3 hs hc3
        refine ⟨r, at4, sd4, Ev.step e0 (Ev.bind e (Ev.bind (specGood_ev s (by omega)) ?_)), h1, h2, h3⟩
        simp only [if_neg hg, e3, Option.bind_some, if_pos ho, if_pos (show acc.length < 8796093022208 by omega)]
        exact f
      · obtain ⟨r, at4, sd4, f, h1, h2, h3⟩ := more (⟨#[101, 120, 46, 99, 111, 109]⟩ : ByteArray) at3 sd3 (by decide) hc3
        refine ⟨r, at4, sd4, Ev.step e0 (Ev.bind e (Ev.bind (specGood_ev s (by omega)) ?_)), h1, h2, h3⟩
        simp only [if_neg hg, e3, Option.bind_some, if_neg ho, if_pos (show acc.length < 8796093022208 by omega)]
        exact f
theorem names_some {l : List Int} (hl : Bytes l) {at_ sd : Int} {n : Nat} (hc : Cur at_ n) (hn : n + 5000 < 4611686018427380000) :
    ∃ r at2 sd2, Ev (fun k => spec_l1Cur_goodNames.f k l at_ sd) (r, at2, sd2) ∧ r.length ≤ 100 ∧ (∀ x ∈ r, x.size ≤ 60) ∧ Cur at2 (n + 1000) := by
  obtain ⟨i, at2, sd2, e, hi, hc2⟩ := pick_some hl hc (by omega) (sd := sd) 6
  obtain ⟨o, at3, sd3, e3, hc3⟩ := one_some hl hc2 (by omega) (sd := sd2) 30
  by_cases ho : o = true
  · obtain ⟨j, at4, sd4, e4, hj, hc4⟩ := pick_some hl hc3 (by omega) (sd := sd3) 2
    obtain ⟨m, hm⟩ : ∃ m : Nat, wrap64 (20 + j) = (m : Int) := ⟨(wrap64 (20 + j)).toNat, by unfold wrap64; omega⟩
    have hm2 : m ≤ 22 := by unfold wrap64 at hm; omega
    obtain ⟨r, at5, sd5, f, h1, h2, h3⟩ := names_loop hl m at4 sd4 (n + 6) [] hc4 (by omega) (by simp; omega) (fun x hx => by cases hx)
    refine ⟨r, at5, sd5, Ev.congr (f := fun k => spec_l1Cur_goodNames.j0 k [] (m : Int) l at4 sd4) (fun k => ?_) (Ev.step (fun k => rfl) f), by simp at h1; omega, h2, cur_up h3 (by omega)⟩
    unfold spec_l1Cur_goodNames.f
    rw [e]
    simp only [Option.bind_some]
    rw [e3]
    simp only [Option.bind_some]
    rw [if_pos ho, e4]
    simp only [Option.bind_some]
    rw [hm]
  · obtain ⟨m, rfl⟩ : ∃ m : Nat, i = (m : Int) := ⟨i.toNat, by omega⟩
    obtain ⟨r, at5, sd5, f, h1, h2, h3⟩ := names_loop hl m at3 sd3 (n + 4) [] hc3 (by omega) (by simp; omega) (fun x hx => by cases hx)
    refine ⟨r, at5, sd5, Ev.congr (f := fun k => spec_l1Cur_goodNames.j0 k [] (m : Int) l at3 sd3) (fun k => ?_) (Ev.step (fun k => rfl) f), by simp at h1; omega, h2, cur_up h3 (by omega)⟩
    unfold spec_l1Cur_goodNames.f
    rw [e]
    simp only [Option.bind_some]
    rw [e3]
    simp only [Option.bind_some]
    rw [if_neg ho]
theorem packed_some {l : List Int} (hl : Bytes l) {at_ sd : Int} {n : Nat} (hc : Cur at_ n) (hn : n + 9000 < 4611686018427380000) :
    ∃ s m at2 sd2, Ev (fun k => spec_l1Cur_packed.f k l at_ sd) (s, m, at2, sd2) ∧ s.size ≤ 602 ∧ (0 ≤ m ∧ m ≤ 100) ∧ Cur at2 (n + 2000) := by
  obtain ⟨r, at2, sd2, e, h1, h2, hc2⟩ := names_some hl hc (by omega) (sd := sd)
  obtain ⟨q, e2, _, _, hq⟩ := pack_both r (fun x hx => by have := h2 x hx; omega)
  obtain ⟨o, at3, sd3, e3, hc3⟩ := one_some hl hc2 (by omega) (sd := sd2) 4
  by_cases ho : o = true
  · obtain ⟨s, at4, sd4, e4, hs, hc4⟩ := spoilt_some hl (⟨#[0, 1, 192, 97, 65, 46]⟩ : ByteArray) (by decide) (by decide) hc3 (by omega) (sd := sd3) (x := q.1) (by omega)
    refine ⟨s, (r.length : Int), at4, sd4, Ev.congr (fun k => rfl) (Ev.bind e (Ev.bind e2 ?_)), by omega, by omega, cur_up hc4 (by omega)⟩
    simp only [e3, Option.bind_some, if_pos ho]
    exact Ev.bind e4 (Ev.now _)
  · refine ⟨q.1, (r.length : Int), at3, sd3, Ev.congr (fun k => rfl) (Ev.bind e (Ev.bind e2 ?_)), by omega, by omega, cur_up hc3 (by omega)⟩
    simp only [e3, Option.bind_some, if_neg ho]
    exact Ev.now _
end Go.Proofs.YtomcfhbmdoomlaaDoor.Pure
