/- FnExactCutMessage: part 7 of 14 of my texts for this claim, joined; the theorem stands in the last. Conditions: none beyond the statement's. -/
import Derived.Test.YtiegkjimpclmaaaGreatDoorMFnExactCutMessagex5
open Go.RowKit Go.Proofs.YtiegkjimpclmaaaGreatDoorW.PrintWords Go.Proofs.YtiegkjimpclmaaaGreatDoorW.PrintLast Go.Proofs.YtiegkjimpclmaaaGreatDoorW.PrintMore
set_option linter.unusedVariables false
set_option linter.unusedSimpArgs false
set_option maxHeartbeats 8000000
set_option maxRecDepth 100000
namespace Go.Proofs.YtiegkjimpclmaaaGreatDoor.P
attribute [local go_sem] max2_int min2_int max_two min_two max_three min_three max_four min_four
def spec_l2Bytes.l0 : Nat → ByteArray → List ByteArray → Int → Int → Option (ByteArray)
 | 0, _, _, _, _ => none
 | k + 1, x5, x13, x14, x15 => if x15 < x14 then (if 0 ≤ x15 then (if x15 < (x13.length : Int) then ((some (([(((rdOf ByteArray.empty x13 x15).size : Int)) % 256] : List Int) : List Int)).bind fun y158 => (if (strOfNums y158).size + (rdOf ByteArray.empty x13 x15).size ≤ 9223372036854775807 then (if x5.size + ((strOfNums y158) ++ (rdOf ByteArray.empty x13 x15)).size ≤ 9223372036854775807 then (spec_l2Bytes.l0 k (x5 ++ ((strOfNums y158) ++ (rdOf ByteArray.empty x13 x15))) x13 x14 (wrap64 (x15 + 1))) else (none)) else (none))) else (none)) else (none)) else (if x5.size + 1 ≤ 9223372036854775807 then (some (x5 ++ (⟨#[0]⟩ : ByteArray))) else (none))
def spec_l2Bytes.f (k : Nat) (a0 : ByteArray) : Option (ByteArray) := (spec_l1Labels.f k a0).bind fun bt153 => (spec_l2Bytes.l0 k (⟨#[]⟩ : ByteArray) bt153.1 (bt153.1.length : Int) 0)
theorem spec_l2Bytes.mono_l : ∀ k, (∀ y0 y1 y2 y3, LeO (spec_l2Bytes.l0 k y0 y1 y2 y3) (spec_l2Bytes.l0 (k + 1) y0 y1 y2 y3))
 | 0 => fun _ _ _ _ r h => by simp [spec_l2Bytes.l0] at h
 | k + 1 => by
  have ih0 := spec_l2Bytes.mono_l k
  · intro y0 y1 y2 y3
    unfold spec_l2Bytes.l0
    repeat' first | (with_reducible first | exact ih0 _ _ _ _ | exact spec_l1Labels.mono _ _ | exact LeO.refl _ | exact LeO.none _ | refine LeO.ite ?_ ?_ | refine LeO.bind ?_ (fun _ => ?_)) | exact LeO.none _ | refine LeO.ite ?_ ?_ | refine LeO.bind ?_ (fun _ => ?_)
theorem spec_l2Bytes.mono : ∀ a0 k, LeO (spec_l2Bytes.f k a0) (spec_l2Bytes.f (k + 1) a0) := by
 intro a0 k
 have ih0 := spec_l2Bytes.mono_l k
 unfold spec_l2Bytes.f
 repeat' first | (with_reducible first | exact ih0 _ _ _ _ | exact spec_l1Labels.mono _ _ | exact LeO.refl _ | exact LeO.none _ | refine LeO.ite ?_ ?_ | refine LeO.bind ?_ (fun _ => ?_)) | exact LeO.none _ | refine LeO.ite ?_ ?_ | refine LeO.bind ?_ (fun _ => ?_)
theorem spec_l2Bytes.calls (k : Nat) (a0 : ByteArray) (r : ByteArray) (w : World) (h : spec_l2Bytes.f k a0 = some r) :
 Calls Tryz.prog 120 #[.string a0] w fun e w' => e = .returned (.string r) ∧ Below w.heap.size w w' := by
 have HB := a0_ (Below.refl w.heap.size w)
 have H := h
 clear h
 unfold spec_l2Bytes.f at H
 obtain ⟨⟨t153, t154⟩, A2, H⟩ := ob_ H
 have H' := a0_ H
 clear H
 go_enter Tryz.func120, Tryz.ntmps120
 go_wp2_with (first | ((with_reducible refine gt_ 171 rfl ?_); refine gs_ 10 Tryz.func171 #[.string a0] ?_; (with_reducible refine (spec_l1Labels.calls k a0 t153 t154 _ A2.out).mono ?_); rintro e w3 ⟨v155, rfl, ho0, hb⟩; refine ⟨_, rfl, ?_⟩; have HO156 := a0_ (Kd.R_lower ho0 (below_size bq0_)); replace HB := a0_ (below_step bq0_ hb); clear hb; (try clear ho0); obtain ⟨Ao4, co4, eo4⟩ := Kd.R_slice HO156.out; subst eo4))
 go_loopg [5, 15] k (fun kq v5 v15 w' => ∃ (x5_1 : ByteArray) (x15_1 : Int), v5 = .string x5_1 ∧ v15 = .int .i64 x15_1 ∧ Aside0 (spec_l2Bytes.l0 kq x5_1 t153 (t153.length : Int) x15_1 = some r) ∧ Aside0 (kq ≤ k) ∧ Aside0 (Kd.R Kd.string 9 w' w.heap.size (fun _ => True) (.slice Ao4 t153.length co4) t153) ∧ Aside0 (Below w.heap.size w w'))
 case atStart => exact ⟨((⟨#[]⟩ : ByteArray)), (0), rs_, rs_, H', ⟨Nat.le_refl _⟩, ⟨kR_ HO156.out⟩, ⟨bq0_⟩⟩
 case round =>
  clear H'
  obtain ⟨x5_1, x15_1, rfl, rfl, HA, HK1, HO_13, HB⟩ := hrel
  cases gk with
  | zero => exact absurd HA.out (by simp [spec_l2Bytes.l0])
  | succ k1 =>
   have H := HA.out
   clear HA
   simp only [spec_l2Bytes.l0] at H
   by_cases c5 : x15_1 < (t153.length : Int)
   case neg =>
    rw [if_neg c5] at H
    have c5b0 := decide_eq_false c5
    clear c5
    by_cases c13 : x5_1.size + 1 ≤ 9223372036854775807
    case neg =>
     rw [if_neg c13] at H
     exact absurd H (by simp)
    rw [if_pos c13] at H
    have c13b0 := eq_true c13
    have c13b1 := decide_eq_true c13
    try have c13b2 : (9223372036854775807 < x5_1.size + 1) = False := eq_false (Nat.not_lt.2 c13)
    obtain rfl := Option.some.inj H
    go_wp2
    go_ret
    exact ⟨rr_, bq0_⟩
   rw [if_pos c5] at H
   have c5b0 := decide_eq_true c5
   clear c5
   by_cases c6 : 0 ≤ x15_1
   case neg =>
    rw [if_neg c6] at H
    exact absurd H (by simp)
   rw [if_pos c6] at H
   have c6b0 := decide_eq_true c6
   clear c6
   by_cases c7 : x15_1 < (t153.length : Int)
   case neg =>
    rw [if_neg c7] at H
    exact absurd H (by simp)
   rw [if_pos c7] at H
   have c7b0 := decide_eq_true c7
   clear c7
   obtain ⟨y158, hy158⟩ : ∃ y_ : List Int, y_ = (([(((rdOf ByteArray.empty t153 x15_1).size : Int)) % 256] : List Int)) := ⟨_, rfl⟩
   replace H := by_ hy158 H
   have Ny158 := a0_ hy158
   clear hy158
   by_cases c8 : (strOfNums y158).size + (rdOf ByteArray.empty t153 x15_1).size ≤ 9223372036854775807
   case neg =>
    rw [if_neg c8] at H
    exact absurd H (by simp)
   rw [if_pos c8] at H
   have c8b0 := eq_true c8
   have c8b1 := decide_eq_true c8
   try have c8b2 : (9223372036854775807 < (strOfNums y158).size + (rdOf ByteArray.empty t153 x15_1).size) = False := eq_false (Nat.not_lt.2 c8)
   by_cases c9 : x5_1.size + ((strOfNums y158) ++ (rdOf ByteArray.empty t153 x15_1)).size ≤ 9223372036854775807
   case neg =>
    rw [if_neg c9] at H
    exact absurd H (by simp)
   rw [if_pos c9] at H
   have c9b0 := eq_true c9
   have c9b1 := decide_eq_true c9
   try have c9b2 : (9223372036854775807 < x5_1.size + ((strOfNums y158) ++ (rdOf ByteArray.empty t153 x15_1)).size) = False := eq_false (Nat.not_lt.2 c9)
   have H' := a0_ H
   clear H
   have p157 := t0_ (x15_1)
   have q157 := tl_ (x15_1) (t153.length)
   obtain ⟨ad157, e157, hx157_0⟩ := Kd.at_string (Kd.R_reads' HO_13.out).2.2 x15_1 (of_eq_true p157) (of_eq_true q157)
   cases e157
   go_wp2_with (first | ((with_reducible refine gate_dst (N := 23) rfl ?_); refine Kd.R_lit (Kd.int .u8) _ 5 ?hg (N := 23) ?hd (xs := ([(((rdOf ByteArray.empty t153 x15_1).size : Int)) % 256] : List Int)) (inner := [.int .u8 ((((rdOf ByteArray.empty t153 x15_1).size : Int)) % 256)]) (ok := fun _ => True) (okp := fun _ => True) ?hr ?hp (fun _ hk => hk) trivial (Below.refl _ _) (Nat.le_refl _) (by simp) ?_; (case hd => rfl); (case hg => rfl); (case hr => first | (go_simp; done) | (go_simp; rfl)); (case hp => exact (Reps.one (show Kd.M (Kd.int .u8) _ _ _ ((((rdOf ByteArray.empty t153 x15_1).size : Int)) % 256) [.int .u8 ((((rdOf ByteArray.empty t153 x15_1).size : Int)) % 256)] from rfl) (Reps.none _ _))); intro v159 w10 ho11 hb hg_ hnew_; clear hg_ hnew_; (first | rw [← Ny158.out] at ho11 | (simp only [Int.reduceToNat] at ho11; rw [← Ny158.out] at ho11)); replace HO_13 := a0_ (Kd.R_below (kR_ HO_13.out) hb); have HO160 := a0_ (Kd.R_lower ho11 (below_size bq0_)); replace HB := a0_ (below_step bq0_ hb); clear hb ho11; have hcv12 := own_string (P := Tryz.prog) Tryz.underlying43 Tryz.underlying5 Tryz.underlying9 (Kd.own_of_R HO160.out)))
   go_roundg k1
   case measure => have := HK1.out; omega
   case rel => exact ⟨(x5_1 ++ ((strOfNums y158) ++ (rdOf ByteArray.empty t153 x15_1))), (wrap64 (x15_1 + 1)), rs_, rs_, H', jl_ HK1, ⟨kR_ HO_13.out⟩, ⟨bq0_⟩⟩
end Go.Proofs.YtiegkjimpclmaaaGreatDoor.P
namespace Go.Proofs.YtiegkjimpclmaaaGreatDoor.P
attribute [local go_sem] max2_int min2_int max_two min_two max_three min_three max_four min_four
attribute [local go_sem] gtr_less
end Go.Proofs.YtiegkjimpclmaaaGreatDoor.P
namespace Go.Proofs.YtiegkjimpclmaaaGreatDoor.P
theorem within_eq (n a b : Int) : impl_within.f n a b = some (decide (a ≤ n ∧ n ≤ b)) := by
 unfold impl_within.f
 by_cases h : n ≥ a
 · rw [if_pos h]; congr 1; rw [decide_eq_decide]; omega
 · rw [if_neg h]; congr 1; rw [eq_comm, decide_eq_false_iff_not]; omega
theorem cutset_byte (b : UInt8) : (([97, 98, 99, 100, 101, 102, 103, 104, 105, 106, 107, 108, 109, 110, 111, 112, 113, 114, 115, 116, 117, 118, 119, 120, 121, 122, 48, 49, 50, 51, 52, 53, 54, 55, 56, 57, 45, 95] : List UInt8).contains b) = labelByte b := by
 have h : ∀ n : Fin 256, (([97, 98, 99, 100, 101, 102, 103, 104, 105, 106, 107, 108, 109, 110, 111, 112, 113, 114, 115, 116, 117, 118, 119, 120, 121, 122, 48, 49, 50, 51, 52, 53, 54, 55, 56, 57, 45, 95] : List UInt8).contains (UInt8.ofFin n)) = labelByte (UInt8.ofFin n) := by decide +kernel
 exact h b.toFin
theorem isLabel_eq (s : ByteArray) : impl_isLabel.f s = some (isLabelL s.data.toList) := by
 unfold impl_isLabel.f isLabelL
 rw [Lib.toList_data, within_eq]
 by_cases h0 : s.data.toList = [42]
 · rw [if_pos h0, h0]; rfl
 · rw [if_neg h0, show (s.data.toList == [42]) = false from beq_eq_false_iff_ne.mpr h0, Bool.false_or]
   simp only [Option.bind_some]
   have hl : decide ((1 : Int) ≤ (s.size : Int) ∧ (s.size : Int) ≤ 20) = decide (1 ≤ s.data.toList.length ∧ s.data.toList.length ≤ 20) := by
    rw [decide_eq_decide, size_len]; omega
   rw [hl]
   by_cases h1 : 1 ≤ s.data.toList.length ∧ s.data.toList.length ≤ 20
   · rw [decide_eq_true h1, if_pos rfl, Bool.true_and]
     unfold strings_Trim.f
     rw [if_pos (by rw [size_len]; omega), if_pos (by decide), if_pos (by decide)]
     simp only [Option.bind_some]
     congr 1
     rw [Lib.toList_data, mkB_data]
     have ht := trimS_nil s.data.toList [97, 98, 99, 100, 101, 102, 103, 104, 105, 106, 107, 108, 109, 110, 111, 112, 113, 114, 115, 116, 117, 118, 119, 120, 121, 122, 48, 49, 50, 51, 52, 53, 54, 55, 56, 57, 45, 95]
     have ha : s.data.toList.all (([97, 98, 99, 100, 101, 102, 103, 104, 105, 106, 107, 108, 109, 110, 111, 112, 113, 114, 115, 116, 117, 118, 119, 120, 121, 122, 48, 49, 50, 51, 52, 53, 54, 55, 56, 57, 45, 95] : List UInt8).contains ·) = s.data.toList.all labelByte := by
      congr 1
      funext b
      exact cutset_byte b
     rw [ha] at ht
     show (Lib.trimS s.data.toList [97, 98, 99, 100, 101, 102, 103, 104, 105, 106, 107, 108, 109, 110, 111, 112, 113, 114, 115, 116, 117, 118, 119, 120, 121, 122, 48, 49, 50, 51, 52, 53, 54, 55, 56, 57, 45, 95] == []) = _
     cases hb : s.data.toList.all labelByte with
     | true => rw [ht.2 hb]; rfl
     | false =>
      rw [beq_eq_false_iff_ne]
      intro h
      rw [ht.1 h] at hb
      cases hb
   · rw [decide_eq_false h1]
     rfl
theorem labelsOf_eq (s : ByteArray) (h : s.size < 4294967281) : impl_labelsOf.f s = some ((labelsL s.data.toList).map mkB) := by
 unfold impl_labelsOf.f labelsL strings_Split.f
 rw [Lib.toList_data]
 by_cases h0 : s.data.toList = []
 · rw [if_pos h0, if_pos h0]; rfl
 · rw [if_neg h0, if_neg h0, if_pos (show (⟨#[46]⟩ : ByteArray).size = 1 from rfl), if_pos h]; rfl
theorem good_closure (x : ByteArray) (W : World) : Calls Tryz.prog 146 #[.string x] W fun e W' => e = .returned (.bool (!isLabelL x.data.toList)) ∧ Below W.heap.size W W' :=
 impl_GoodName_1.calls x _ W (by unfold impl_GoodName_1.f; rw [isLabel_eq]; rfl)
def impl_GoodName.f (s : ByteArray) : Option Bool := some (goodL s.data.toList)
set_option maxHeartbeats 4000000 in
theorem impl_GoodName.calls (a0 : ByteArray) (r : Bool) (w : World) (h : impl_GoodName.f a0 = some r) :
 Calls Tryz.prog 83 #[.string a0] w fun e w' => e = .returned (.bool r) ∧ Below w.heap.size w w' := by
 have HG : Aside0 (goodL a0.data.toList = r) := ⟨Option.some.inj h⟩
 clear h
 by_cases h1 : 60 < a0.size
 · have hg : goodL a0.data.toList = false := by
    unfold goodL
    rw [decide_eq_false (by rw [← size_len]; omega)]
    rfl
   obtain rfl := hg.symm.trans HG.out
   have h2 : decide (60 < a0.size) = true := decide_eq_true h1
   have h3 : decide ((60 : Int) < (a0.size : Int)) = true := decide_eq_true (by omega)
   clear HG hg h1
   go_enter Tryz.func83, Tryz.ntmps83
   go_wp2
   go_ret
   exact ⟨rfl, Below.refl _ _⟩
 · have h2 : decide (60 < a0.size) = false := decide_eq_false h1
   have h3 : decide ((60 : Int) < (a0.size : Int)) = false := decide_eq_false (by omega)
   have cl := impl_labelsOf.calls a0 _ w (labelsOf_eq a0 (by omega))
   have eg : ∀ args w, (callFunc 146 args).run Tryz.prog w = .ok (.enter 146 args) w := enters_of Tryz.func146 (by kernel_rfl) rfl
   have cc := fun A c W hr => contains_str A c ((labelsL a0.data.toList).map mkB) 146 #[] (fun x => !isLabelL x.data.toList) W hr eg (fun x _ W' _ => good_closure x W')
   have hany : ((labelsL a0.data.toList).map mkB).any (fun x => !isLabelL x.data.toList) = !(labelsL a0.data.toList).all isLabelL := by
    rw [List.any_map, List.not_all_eq_any_not]
    simp [Function.comp_def, mkB_data]
   have hlen : ((labelsL a0.data.toList).map mkB).length = (labelsL a0.data.toList).length := List.length_map ..
   have hgd : goodL a0.data.toList = (decide ((labelsL a0.data.toList).length ≤ 8) && (labelsL a0.data.toList).all isLabelL) := by
    unfold goodL
    rw [decide_eq_true (by rw [← size_len]; omega), Bool.true_and]
   rw [hany] at cc
   rw [hgd] at HG
   generalize (labelsL a0.data.toList).map mkB = ls at cl cc hlen
   generalize (labelsL a0.data.toList).length = n at hlen HG
   generalize (labelsL a0.data.toList).all isLabelL = b at cc HG
   clear h1 hany hgd
   by_cases h8 : ls.length ≤ 8
   · have h8a : decide (ls.length ≤ 8) = true := decide_eq_true h8
     have h8b : decide ((ls.length : Int) ≤ 8) = true := decide_eq_true (by omega)
     have hr : b = r := by
      have := HG.out
      rwa [decide_eq_true (by omega), Bool.true_and] at this
     subst hr
     clear HG hlen h8
     go_enter Tryz.func83, Tryz.ntmps83
     go_wp2_with (first | (go_at_call 144; refine cl.mono ?_; rintro e w1 ⟨v, rfl, hR, hb⟩; obtain ⟨A, c, rfl⟩ := Kd.R_slice hR; have hC := (Kd.R_reads' hR).2.2) | (go_at_call 145; refine (cc A c _ hC).mono ?_; rintro e w2 ⟨rfl, hb2⟩))
     go_ret
     exact ⟨by simp, below_then hb hb.size hb2⟩
   · have h8a : decide (ls.length ≤ 8) = false := decide_eq_false h8
     have h8b : decide ((ls.length : Int) ≤ 8) = false := decide_eq_false (by omega)
     have hr : false = r := by
      have := HG.out
      rwa [decide_eq_false (by omega), Bool.false_and] at this
     subst hr
     clear HG hlen h8
     go_enter Tryz.func83, Tryz.ntmps83
     go_wp2_with (first | (go_at_call 144; refine cl.mono ?_; rintro e w1 ⟨v, rfl, hR, hb⟩; obtain ⟨A, c, rfl⟩ := Kd.R_slice hR; have hC := (Kd.R_reads' hR).2.2))
     go_ret
     exact ⟨rfl, hb⟩
end Go.Proofs.YtiegkjimpclmaaaGreatDoor.P
namespace Go.Proofs.YtiegkjimpclmaaaGreatDoor.P
attribute [local go_sem] max2_int min2_int max_two min_two max_three min_three max_four min_four
def impl_isTarget.f (a0 : ByteArray) : Option (Bool) := if a0.toList = ([] : List UInt8) then (some false) else ((impl_GoodName.f a0).bind fun t242 => (if t242 = true then ((strings_Contains.f a0 (⟨#[42]⟩ : ByteArray)).bind fun t243 => (some (!t243))) else (some false)))
theorem impl_isTarget.calls (a0 : ByteArray) (r : Bool) (w : World) (h : impl_isTarget.f a0 = some r) :
 Calls Tryz.prog 90 #[.string a0] w fun e w' => e = .returned (.bool r) ∧ Below w.heap.size w w' := by
 have HB := a0_ (Below.refl w.heap.size w)
 have H := h
 clear h
 unfold impl_isTarget.f at H
 by_cases c2 : a0.toList = ([] : List UInt8)
 case pos =>
  rw [if_pos c2] at H
  have c2b0 := beq_iff_eq.mpr c2
  have c2b1 := bne_eq_false_iff_eq.mpr c2
  clear c2
  obtain rfl := Option.some.inj H
  go_enter Tryz.func90, Tryz.ntmps90
  go_wp2
  go_ret
  exact ⟨rr_, bq0_⟩
 rw [if_neg c2] at H
 have c2b0 := beq_eq_false_iff_ne.mpr c2
 have c2b1 := bne_iff_ne.mpr c2
 obtain ⟨t242, A3, H⟩ := ob_ H
 by_cases c4 : t242 = true
 case neg =>
  replace c4 := Bool.eq_false_iff.mpr c4
  subst c4
  rw [if_neg ff_] at H
  obtain rfl := Option.some.inj H
  go_enter Tryz.func90, Tryz.ntmps90
  go_wp2_with (first | (go_at_call 83; (with_reducible refine (impl_GoodName.calls a0 false _ A3.out).mono ?_); rintro e w7 ⟨rfl, hb⟩; replace HB := a0_ (below_step bq0_ hb); clear hb))
  go_ret
  exact ⟨rr_, bq0_⟩
 subst c4
 rw [if_pos rfl] at H
 obtain ⟨t243, A5, H⟩ := ob_ H
 obtain rfl := Option.some.inj H
 go_enter Tryz.func90, Tryz.ntmps90
 go_wp2_with (first | (go_at_call 83; (with_reducible refine (impl_GoodName.calls a0 true _ A3.out).mono ?_); rintro e w6 ⟨rfl, hb⟩; replace HB := a0_ (below_step bq0_ hb); clear hb) | (go_at_call 151; (with_reducible refine (strings_Contains.calls a0 (⟨#[42]⟩ : ByteArray) t243 _ A5.out).mono ?_); rintro e w' ⟨rfl, ⟨nd, rfl⟩⟩))
 go_ret
 exact ⟨rr_, bq0_⟩
mutual
def impl_withoutLast.l0 : Nat → List (S45) → Int → Option ((List (S45)))
 | 0, _, _ => none
 | k + 1, x0, x3 => if x3 > 0 then (if 0 ≤ (wrap64 (x3 - 1)) then (if (wrap64 (x3 - 1)) < (x0.length : Int) then (if 0 ≤ x3 then (if x3 < (x0.length : Int) then ((impl_compareKeys.f k ((rd_T45 x0 (wrap64 (x3 - 1))).f0) ((rd_T45 x0 (wrap64 (x3 - 1))).f1) ((rd_T45 x0 (wrap64 (x3 - 1))).f2) ((rd_T45 x0 (wrap64 (x3 - 1))).f3) ((rd_T45 x0 x3).f0) ((rd_T45 x0 x3).f1) ((rd_T45 x0 x3).f2) ((rd_T45 x0 x3).f3)).bind fun t1062 => (impl_withoutLast.j1 k x0 x3 (t1062 == 0))) else (none)) else (none)) else (none)) else (none)) else (impl_withoutLast.j1 k x0 x3 false)
def impl_withoutLast.j1 : Nat → List (S45) → Int → Bool → Option ((List (S45)))
 | 0, _, _, _ => none
 | k + 1, x0, x3, x21 => if x21 = true then (impl_withoutLast.l0 k x0 (wrap64 (x3 - 1))) else (if 0 ≤ x3 then (if x3 ≤ (x0.length : Int) then (some (x0.take (x3 : Int).toNat)) else (none)) else (none))
end
def impl_withoutLast.f (k : Nat) (l0 : List (S45)) : Option ((List (S45))) := impl_withoutLast.l0 k l0 (wrap64 ((l0.length : Int) - 1))
def impl_withoutLast.T2 : Bool × List (List Nat × List Nat) := (true, [([], []), ([0], [0]), ([1], [1]), ([2], [2]), ([2], [2]), ([4, 2], [2, 4]), ([3, 5, 2], [2, 3, 5]), ([6, 2], [2, 6]), ([2], [2]), ([2], [2]), ([8, 9, 2], [2, 8, 9]), ([10, 2], [2, 10]), ([7, 11, 2, 2], [2, 7, 11]), ([12, 2], [2, 12]), ([2, 13], [2, 13])])
def impl_withoutLast.B2 : List Nat := [0, 1, 3, 7, 7, 23, 63, 127, 7, 7, 775, 1799, 4095, 8191, 16383]
theorem impl_withoutLast.tab2 : rtab .any (opsOf Tryz.f108 2) = impl_withoutLast.T2 := by kernel_rfl
theorem impl_withoutLast.bits2 : waitsOk impl_withoutLast.T2.2 impl_withoutLast.B2 = true := by kernel_rfl
mutual
def spec_l3Bytes.l0 : Nat → ByteArray → List ByteArray → List ByteArray → Int → Int → Option (ByteArray × Bool)
 | 0, _, _, _, _, _ => none
 | k + 1, x6, x7, x19, x20, x21 => if x21 < x20 then (if 0 ≤ x21 then (if x21 < (x19.length : Int) then ((spec_l1Int.f k (rdOf ByteArray.empty x19 x21)).bind fun t165 => ((spec_l1In.f t165 0 255).bind fun t166 => (if t166 = true then ((spec_l3Number.f k t165 1).bind fun t167 => (if x6.size + t167.size ≤ 9223372036854775807 then (spec_l3Bytes.l0 k (x6 ++ t167) x7 x19 x20 (wrap64 (x21 + 1))) else (none))) else (some ((⟨#[]⟩ : ByteArray), false))))) else (none)) else (none)) else (some (x6, ((x7.length : Int) == 4)))
def spec_l3Bytes.j1 : Nat → ByteArray → Int → Bool → Option (ByteArray × Bool)
 | 0, _, _, _ => none
 | k + 1, x1, x14, x39 => if x39 = true then ((spec_l3Target.f k x1).bind fun t168 => (if t168 = true then ((spec_l2Bytes.f k x1).bind fun t169 => (some (t169, true))) else (some ((⟨#[]⟩ : ByteArray), false)))) else (if x14 = 6 then ((spec_l1Int.f k x1).bind fun t170 => ((spec_l3Number.f k t170 4).bind fun t171 => ((spec_l1In.f t170 0 4294967295).bind fun t172 => (some (t171, t172))))) else (if x14 = 15 then ((spec_l1Split.f k x1 32).bind fun t173 => (if (t173.length : Int) = 2 then (if 0 < (t173.length : Int) then ((spec_l1Int.f k (rdOf ByteArray.empty t173 0)).bind fun t177 => ((spec_l1In.f t177 0 65535).bind fun t178 => (if t178 = true then (if 1 < (t173.length : Int) then ((spec_l3Target.f k (rdOf ByteArray.empty t173 1)).bind fun t180 => (spec_l3Bytes.j2 k t173 (!t180))) else (none)) else (spec_l3Bytes.j2 k t173 true)))) else (none)) else (spec_l3Bytes.j2 k t173 true))) else (if x14 = 16 then (spec_l3Bytes.l1 k x1 0) else (some ((⟨#[]⟩ : ByteArray), false)))))
def spec_l3Bytes.j2 : Nat → List ByteArray → Bool → Option (ByteArray × Bool)
 | 0, _, _ => none
 | k + 1, x12, x76 => if x76 = true then (some ((⟨#[]⟩ : ByteArray), false)) else (if 0 < (x12.length : Int) then ((spec_l1Int.f k (rdOf ByteArray.empty x12 0)).bind fun t182 => ((spec_l3Number.f k t182 2).bind fun t183 => (if 1 < (x12.length : Int) then ((spec_l2Bytes.f k (rdOf ByteArray.empty x12 1)).bind fun t185 => (if t183.size + t185.size ≤ 9223372036854775807 then (some (t183 ++ t185, true)) else (none))) else (none)))) else (none))
def spec_l3Bytes.l1 : Nat → ByteArray → Int → Option (ByteArray × Bool)
 | 0, _, _ => none
 | k + 1, x1, x13 => if x13 < (x1.size : Int) then (if 0 ≤ x13 then (if (bt x1 x13) < 32 then (some ((⟨#[]⟩ : ByteArray), false)) else (if (bt x1 x13) > 126 then (some ((⟨#[]⟩ : ByteArray), false)) else (spec_l3Bytes.l1 k x1 (wrap64 (x13 + 1))))) else (none)) else ((some (([((x1.size : Int)) % 256] : List Int) : List Int)).bind fun y186 => (if (strOfNums y186).size + x1.size ≤ 9223372036854775807 then (some ((strOfNums y186) ++ x1, decide ((x1.size : Int) ≤ 30))) else (none)))
end
def spec_l3Bytes.f (k : Nat) (a0 : Int) (a1 : ByteArray) : Option (ByteArray × Bool) := if a0 = 1 then ((spec_l1Split.f k a1 46).bind fun t161 => (spec_l3Bytes.l0 k (⟨#[]⟩ : ByteArray) t161 t161 (t161.length : Int) 0)) else (if a0 = 2 then (spec_l3Bytes.j1 k a1 a0 (a0 == 2)) else (spec_l3Bytes.j1 k a1 a0 (a0 == 5)))
theorem spec_l3Bytes.mono_l : ∀ k, (∀ y0 y1 y2 y3 y4, LeO (spec_l3Bytes.l0 k y0 y1 y2 y3 y4) (spec_l3Bytes.l0 (k + 1) y0 y1 y2 y3 y4)) ∧ (∀ y0 y1 y2, LeO (spec_l3Bytes.j1 k y0 y1 y2) (spec_l3Bytes.j1 (k + 1) y0 y1 y2)) ∧ (∀ y0 y1, LeO (spec_l3Bytes.j2 k y0 y1) (spec_l3Bytes.j2 (k + 1) y0 y1)) ∧ (∀ y0 y1, LeO (spec_l3Bytes.l1 k y0 y1) (spec_l3Bytes.l1 (k + 1) y0 y1))
 | 0 => ⟨fun _ _ _ _ _ r h => by simp [spec_l3Bytes.l0] at h, fun _ _ _ r h => by simp [spec_l3Bytes.j1] at h, fun _ _ r h => by simp [spec_l3Bytes.j2] at h, fun _ _ r h => by simp [spec_l3Bytes.l1] at h⟩
 | k + 1 => by
  obtain ⟨ih0, ih1, ih2, ih3⟩ := spec_l3Bytes.mono_l k
  refine ⟨?_, ?_, ?_, ?_⟩
  · intro y0 y1 y2 y3 y4
    unfold spec_l3Bytes.l0
    repeat' first | (with_reducible first | exact ih0 _ _ _ _ _ | exact ih1 _ _ _ | exact ih2 _ _ | exact ih3 _ _ | exact spec_l1Int.mono _ _ | exact spec_l1Split.mono _ _ _ | exact spec_l2Bytes.mono _ _ | exact spec_l3Number.mono _ _ _ | exact spec_l3Target.mono _ _ | exact LeO.refl _ | exact LeO.none _ | refine LeO.ite ?_ ?_ | refine LeO.bind ?_ (fun _ => ?_)) | exact LeO.none _ | refine LeO.ite ?_ ?_ | refine LeO.bind ?_ (fun _ => ?_)
  · intro y0 y1 y2
    unfold spec_l3Bytes.j1
    repeat' first | (with_reducible first | exact ih0 _ _ _ _ _ | exact ih1 _ _ _ | exact ih2 _ _ | exact ih3 _ _ | exact spec_l1Int.mono _ _ | exact spec_l1Split.mono _ _ _ | exact spec_l2Bytes.mono _ _ | exact spec_l3Number.mono _ _ _ | exact spec_l3Target.mono _ _ | exact LeO.refl _ | exact LeO.none _ | refine LeO.ite ?_ ?_ | refine LeO.bind ?_ (fun _ => ?_)) | exact LeO.none _ | refine LeO.ite ?_ ?_ | refine LeO.bind ?_ (fun _ => ?_)
  · intro y0 y1
    unfold spec_l3Bytes.j2
    repeat' first | (with_reducible first | exact ih0 _ _ _ _ _ | exact ih1 _ _ _ | exact ih2 _ _ | exact ih3 _ _ | exact spec_l1Int.mono _ _ | exact spec_l1Split.mono _ _ _ | exact spec_l2Bytes.mono _ _ | exact spec_l3Number.mono _ _ _ | exact spec_l3Target.mono _ _ | exact LeO.refl _ | exact LeO.none _ | refine LeO.ite ?_ ?_ | refine LeO.bind ?_ (fun _ => ?_)) | exact LeO.none _ | refine LeO.ite ?_ ?_ | refine LeO.bind ?_ (fun _ => ?_)
  · intro y0 y1
    unfold spec_l3Bytes.l1
    repeat' first | (with_reducible first | exact ih0 _ _ _ _ _ | exact ih1 _ _ _ | exact ih2 _ _ | exact ih3 _ _ | exact spec_l1Int.mono _ _ | exact spec_l1Split.mono _ _ _ | exact spec_l2Bytes.mono _ _ | exact spec_l3Number.mono _ _ _ | exact spec_l3Target.mono _ _ | exact LeO.refl _ | exact LeO.none _ | refine LeO.ite ?_ ?_ | refine LeO.bind ?_ (fun _ => ?_)) | exact LeO.none _ | refine LeO.ite ?_ ?_ | refine LeO.bind ?_ (fun _ => ?_)
theorem spec_l3Bytes.mono : ∀ a0 a1 k, LeO (spec_l3Bytes.f k a0 a1) (spec_l3Bytes.f (k + 1) a0 a1) := by
 intro a0 a1 k
 obtain ⟨ih0, ih1, ih2, ih3⟩ := spec_l3Bytes.mono_l k
 unfold spec_l3Bytes.f
 repeat' first | (with_reducible first | exact ih0 _ _ _ _ _ | exact ih1 _ _ _ | exact ih2 _ _ | exact ih3 _ _ | exact spec_l1Int.mono _ _ | exact spec_l1Split.mono _ _ _ | exact spec_l2Bytes.mono _ _ | exact spec_l3Number.mono _ _ _ | exact spec_l3Target.mono _ _ | exact LeO.refl _ | exact LeO.none _ | refine LeO.ite ?_ ?_ | refine LeO.bind ?_ (fun _ => ?_)) | exact LeO.none _ | refine LeO.ite ?_ ?_ | refine LeO.bind ?_ (fun _ => ?_)
def spec_l3Bytes.T26 : Bool × List (List Nat × List Nat) := (true, [([], []), ([0], [0]), ([1], [1]), ([2], [2]), ([3, 3], [3]), ([], []), ([5], [5]), ([6], [6]), ([7, 4], [7]), ([4, 8], [4, 8]), ([9, 8, 0, 1, 2, 3, 4, 5, 6, 7, 8, 9], [9]), ([10, 0, 1, 2, 3, 4, 5, 6, 7, 8, 9, 10], [])])
def spec_l3Bytes.B26 : List Nat := [0, 1, 3, 7, 15, 0, 32, 96, 255, 511, 1023, 2047]
theorem spec_l3Bytes.tab26 : rtab .any (opsOf Tryz.f55 26) = spec_l3Bytes.T26 := by kernel_rfl
theorem spec_l3Bytes.bits26 : waitsOk spec_l3Bytes.T26.2 spec_l3Bytes.B26 = true := by kernel_rfl
theorem spec_l3Bytes.calls (k : Nat) (a0 : Int) (a1 : ByteArray) (r1 : ByteArray) (r2 : Bool) (w : World) (h : spec_l3Bytes.f k a0 a1 = some (r1, r2)) :
 Calls Tryz.prog 55 #[.int .i64 a0, .string a1] w fun e w' => e = .returned (.tuple #[.string r1, .bool r2]) ∧ Below w.heap.size w w' := by
 have HB := a0_ (Below.refl w.heap.size w)
 have H := h
 clear h
 unfold spec_l3Bytes.f at H
 by_cases c3 : a0 = 1
 case pos =>
  rw [if_pos c3] at H
  have c3b0 := beq_iff_eq.mpr c3
  have c3b1 := bne_eq_false_iff_eq.mpr c3
  clear c3
  obtain ⟨t161, A4, H⟩ := ob_ H
  have H' := a0_ H
  clear H
  go_enter Tryz.func55, Tryz.ntmps55
  go_wp2_with (first | ((with_reducible refine gt_ 116 rfl ?_); refine gs_ 18 Tryz.func116 #[.string a1, .int .u8 46] ?_; (with_reducible refine (spec_l1Split.calls k a1 46 t161 _ A4.out).mono ?_); rintro e w5 ⟨v162, rfl, ho0, hb⟩; refine ⟨_, rfl, ?_⟩; have HO163 := a0_ (Kd.R_lower ho0 (below_size bq0_)); replace HB := a0_ (below_step bq0_ hb); clear hb; (try clear ho0); obtain ⟨Ao6, co6, eo6⟩ := Kd.R_slice HO163.out; subst eo6))
  go_loopg [6, 21] k (fun kq v6 v21 w' => ∃ (x6_1 : ByteArray) (x21_1 : Int), v6 = .string x6_1 ∧ v21 = .int .i64 x21_1 ∧ Aside0 (spec_l3Bytes.l0 kq x6_1 t161 t161 (t161.length : Int) x21_1 = some (r1, r2)) ∧ Aside0 (kq ≤ k) ∧ Aside0 (Kd.R Kd.string 9 w' w.heap.size (fun _ => True) (.slice Ao6 t161.length co6) t161) ∧ Aside0 (Kd.R Kd.string 9 w' w.heap.size (fun _ => True) (.slice Ao6 t161.length co6) t161) ∧ Aside0 (Below w.heap.size w w'))
  case atStart => exact ⟨((⟨#[]⟩ : ByteArray)), (0), rs_, rs_, H', ⟨Nat.le_refl _⟩, ⟨kR_ HO163.out⟩, ⟨kR_ HO163.out⟩, ⟨bq0_⟩⟩
  case round =>
   clear H'
   try clear c3
   try clear c3b0
   try clear c3b1
   obtain ⟨x6_1, x21_1, rfl, rfl, HA, HK1, HO_7, HO_19, HB⟩ := hrel
   cases gk with
   | zero => exact absurd HA.out (by simp [spec_l3Bytes.l0])
   | succ k1 =>
    have H := HA.out
    clear HA
    simp only [spec_l3Bytes.l0] at H
    by_cases c7 : x21_1 < (t161.length : Int)
    case neg =>
     rw [if_neg c7] at H
     have c7b0 := decide_eq_false c7
     clear c7
     simp only [Option.some.injEq, Prod.mk.injEq] at H
     obtain ⟨rfl, rfl⟩ := H
     go_wp2
     go_ret2
     exact ⟨rr_, bq0_⟩
    rw [if_pos c7] at H
    have c7b0 := decide_eq_true c7
    clear c7
    by_cases c8 : 0 ≤ x21_1
    case neg =>
     rw [if_neg c8] at H
     exact absurd H (by simp)
    rw [if_pos c8] at H
    have c8b0 := decide_eq_true c8
    clear c8
    by_cases c9 : x21_1 < (t161.length : Int)
    case neg =>
     rw [if_neg c9] at H
     exact absurd H (by simp)
    rw [if_pos c9] at H
    have c9b0 := decide_eq_true c9
    clear c9
    obtain ⟨t165, A10, H⟩ := ob_ H
    obtain ⟨t166, A11, H⟩ := ob_ H
    by_cases c12 : t166 = true
    case neg =>
     replace c12 := Bool.eq_false_iff.mpr c12
     subst c12
     rw [if_neg ff_] at H
     simp only [Option.some.injEq, Prod.mk.injEq] at H
     obtain ⟨rfl, rfl⟩ := H
     have p164 := t0_ (x21_1)
     have q164 := tl_ (x21_1) (t161.length)
     obtain ⟨ad164, e164, hx164_0⟩ := Kd.at_string (Kd.R_reads' HO_19.out).2.2 x21_1 (of_eq_true p164) (of_eq_true q164)
     cases e164
     go_wp2_with (first | ((with_reducible refine gt_ 117 rfl ?_); refine gs_ 26 Tryz.func117 #[.string (rdOf ByteArray.empty t161 x21_1)] ?_; (with_reducible refine (spec_l1Int.calls k1 (rdOf ByteArray.empty t161 x21_1) t165 _ A10.out).mono ?_); rintro e w' ⟨rfl, ⟨nd, rfl⟩⟩; refine ⟨_, rfl, ?_⟩) | ((with_reducible refine gt_ 102 rfl ?_); refine gs_ 28 Tryz.func102 #[.int .i64 t165, .int .i64 0, .int .i64 255] ?_; (with_reducible refine (spec_l1In.calls t165 0 255 false _ A11.out).mono ?_); rintro e w' ⟨rfl, ⟨nd, rfl⟩⟩; refine ⟨_, rfl, ?_⟩))
     go_ret2
     exact ⟨rr_, bq0_⟩
    subst c12
    rw [if_pos rfl] at H
    obtain ⟨t167, A13, H⟩ := ob_ H
    by_cases c14 : x6_1.size + t167.size ≤ 9223372036854775807
    case neg =>
     rw [if_neg c14] at H
     exact absurd H (by simp)
    rw [if_pos c14] at H
    have c14b0 := eq_true c14
    have c14b1 := decide_eq_true c14
    try have c14b2 : (9223372036854775807 < x6_1.size + t167.size) = False := eq_false (Nat.not_lt.2 c14)
    have H' := a0_ H
    clear H
    have p164 := t0_ (x21_1)
    have q164 := tl_ (x21_1) (t161.length)
    obtain ⟨ad164, e164, hx164_0⟩ := Kd.at_string (Kd.R_reads' HO_19.out).2.2 x21_1 (of_eq_true p164) (of_eq_true q164)
    cases e164
    go_wp2_with (first | ((with_reducible refine gt_ 117 rfl ?_); refine gs_ 26 Tryz.func117 #[.string (rdOf ByteArray.empty t161 x21_1)] ?_; (with_reducible refine (spec_l1Int.calls k1 (rdOf ByteArray.empty t161 x21_1) t165 _ A10.out).mono ?_); rintro e w' ⟨rfl, ⟨nd, rfl⟩⟩; refine ⟨_, rfl, ?_⟩) | ((with_reducible refine gt_ 102 rfl ?_); refine gs_ 28 Tryz.func102 #[.int .i64 t165, .int .i64 0, .int .i64 255] ?_; (with_reducible refine (spec_l1In.calls t165 0 255 true _ A11.out).mono ?_); rintro e w' ⟨rfl, ⟨nd, rfl⟩⟩; refine ⟨_, rfl, ?_⟩) | ((with_reducible refine gt_ 118 rfl ?_); refine gs_ 32 Tryz.func118 #[.int .i64 t165, .int .i64 1] ?_; (with_reducible refine (spec_l3Number.calls k1 t165 1 t167 _ A13.out).mono ?_); rintro e w15 ⟨rfl, hb⟩; refine ⟨_, rfl, ?_⟩; replace HO_7 := a0_ (Kd.R_below (kR_ HO_7.out) hb); replace HO_19 := a0_ (Kd.R_below (kR_ HO_19.out) hb); replace HB := a0_ (below_step bq0_ hb); clear hb))
    go_roundg k1
    case measure => have := HK1.out; omega
    case rel => exact ⟨(x6_1 ++ t167), (wrap64 (x21_1 + 1)), rs_, rs_, H', jl_ HK1, ⟨kR_ HO_7.out⟩, ⟨kR_ HO_19.out⟩, ⟨bq0_⟩⟩
 rw [if_neg c3] at H
 have c3b0 := beq_eq_false_iff_ne.mpr c3
 have c3b1 := bne_iff_ne.mpr c3
 have HC16 := a0_ H
 clear H
 go_enter Tryz.func55, Tryz.ntmps55
 go_upto_if 39 with (fail)
 go_cut [39] (fun v39 wc => ∃ (kq : Nat) (x39_15 : Bool), v39 = .bool x39_15 ∧ Aside0 (spec_l3Bytes.j1 kq a1 a0 x39_15 = some (r1, r2)) ∧ Aside0 (kq ≤ k) ∧ Aside0 (Below w.heap.size w wc))
 case first =>
  have H := HC16.out
  clear HC16
  by_cases c17 : a0 = 2
  case neg =>
   rw [if_neg c17] at H
   have c17b0 := beq_eq_false_iff_ne.mpr c17
   have c17b1 := bne_iff_ne.mpr c17
   (first | rw [c17b0] | (simp only [i64_w, i32_w]; rw [c17b0]) | skip)
   have H' := a0_ H
   clear H
   go_wp2
   go_meet
   case rel => exact ⟨_, ((a0 == 5)), rs_, H', ⟨by first | omega | exact Nat.le_refl _⟩, ⟨bq0_⟩⟩
  rw [if_pos c17] at H
  have c17b0 := beq_iff_eq.mpr c17
  have c17b1 := bne_eq_false_iff_eq.mpr c17
  clear c17
  (first | rw [c17b0] | (simp only [i64_w, i32_w]; rw [c17b0]) | skip)
  have H' := a0_ H
  clear H
  go_wp2
  go_meet
  case rel => exact ⟨_, ((a0 == 2)), rs_, H', ⟨by first | omega | exact Nat.le_refl _⟩, ⟨bq0_⟩⟩
 case rest =>
  clear HC16
  try clear c3
  try clear c3b0
  try clear c3b1
  obtain ⟨kq, x39_15, rfl, HA, HJ15, HB⟩ := hcut
  cases kq with
  | zero => exact absurd HA.out (by simp [spec_l3Bytes.j1])
  | succ kj15 =>
   have H := HA.out
   clear HA
   simp only [spec_l3Bytes.j1] at H
   by_cases c18 : x39_15 = true
   case pos =>
    subst c18
    rw [if_pos rfl] at H
    obtain ⟨t168, A19, H⟩ := ob_ H
    by_cases c20 : t168 = true
    case neg =>
     replace c20 := Bool.eq_false_iff.mpr c20
     subst c20
     rw [if_neg ff_] at H
     simp only [Option.some.injEq, Prod.mk.injEq] at H
     obtain ⟨rfl, rfl⟩ := H
     go_wp2_with (first | ((with_reducible refine gt_ 119 rfl ?_); refine gs_ 43 Tryz.func119 #[.string a1] ?_; (with_reducible refine (spec_l3Target.calls kj15 a1 false _ A19.out).mono ?_); rintro e w24 ⟨rfl, hb⟩; refine ⟨_, rfl, ?_⟩; replace HB := a0_ (below_step bq0_ hb); clear hb))
     go_ret2
     exact ⟨rr_, bq0_⟩
    subst c20
    rw [if_pos rfl] at H
    obtain ⟨t169, A21, H⟩ := ob_ H
    simp only [Option.some.injEq, Prod.mk.injEq] at H
    obtain ⟨rfl, rfl⟩ := H
    go_wp2_with (first | ((with_reducible refine gt_ 119 rfl ?_); refine gs_ 43 Tryz.func119 #[.string a1] ?_; (with_reducible refine (spec_l3Target.calls kj15 a1 true _ A19.out).mono ?_); rintro e w22 ⟨rfl, hb⟩; refine ⟨_, rfl, ?_⟩; replace HB := a0_ (below_step bq0_ hb); clear hb) | ((with_reducible refine gt_ 120 rfl ?_); refine gs_ 46 Tryz.func120 #[.string a1] ?_; (with_reducible refine (spec_l2Bytes.calls kj15 a1 t169 _ A21.out).mono ?_); rintro e w23 ⟨rfl, hb⟩; refine ⟨_, rfl, ?_⟩; replace HB := a0_ (below_step bq0_ hb); clear hb))
    go_ret2
    exact ⟨rr_, bq0_⟩
   replace c18 := Bool.eq_false_iff.mpr c18
   subst c18
   rw [if_neg ff_] at H
   by_cases c25 : a0 = 6
   case pos =>
    rw [if_pos c25] at H
    have c25b0 := beq_iff_eq.mpr c25
    have c25b1 := bne_eq_false_iff_eq.mpr c25
    clear c25
    obtain ⟨t170, A26, H⟩ := ob_ H
    obtain ⟨t171, A27, H⟩ := ob_ H
    obtain ⟨t172, A28, H⟩ := ob_ H
    simp only [Option.some.injEq, Prod.mk.injEq] at H
    obtain ⟨rfl, rfl⟩ := H
    go_wp2_with (first | ((with_reducible refine gt_ 117 rfl ?_); refine gs_ 50 Tryz.func117 #[.string a1] ?_; (with_reducible refine (spec_l1Int.calls kj15 a1 t170 _ A26.out).mono ?_); rintro e w' ⟨rfl, ⟨nd, rfl⟩⟩; refine ⟨_, rfl, ?_⟩) | ((with_reducible refine gt_ 118 rfl ?_); refine gs_ 52 Tryz.func118 #[.int .i64 t170, .int .i64 4] ?_; (with_reducible refine (spec_l3Number.calls kj15 t170 4 t171 _ A27.out).mono ?_); rintro e w29 ⟨rfl, hb⟩; refine ⟨_, rfl, ?_⟩; replace HB := a0_ (below_step bq0_ hb); clear hb) | ((with_reducible refine gt_ 102 rfl ?_); refine gs_ 54 Tryz.func102 #[.int .i64 t170, .int .i64 0, .int .i64 4294967295] ?_; (with_reducible refine (spec_l1In.calls t170 0 4294967295 t172 _ A28.out).mono ?_); rintro e w' ⟨rfl, ⟨nd, rfl⟩⟩; refine ⟨_, rfl, ?_⟩))
    go_ret2
    exact ⟨rr_, bq0_⟩
   rw [if_neg c25] at H
   have c25b0 := beq_eq_false_iff_ne.mpr c25
   have c25b1 := bne_iff_ne.mpr c25
   by_cases c30 : a0 = 15
   case neg =>
    rw [if_neg c30] at H
    have c30b0 := beq_eq_false_iff_ne.mpr c30
    have c30b1 := bne_iff_ne.mpr c30
    by_cases c56 : a0 = 16
    case neg =>
     rw [if_neg c56] at H
     have c56b0 := beq_eq_false_iff_ne.mpr c56
     have c56b1 := bne_iff_ne.mpr c56
     simp only [Option.some.injEq, Prod.mk.injEq] at H
     obtain ⟨rfl, rfl⟩ := H
     go_wp2
     go_ret2
     exact ⟨rr_, bq0_⟩
    rw [if_pos c56] at H
    have c56b0 := beq_iff_eq.mpr c56
    have c56b1 := bne_eq_false_iff_eq.mpr c56
    clear c56
    have H' := a0_ H
    clear H
    go_wp2
    go_loopg [13] kj15 (fun kq v13 w' => ∃ (x13_2 : Int), v13 = .int .i64 x13_2 ∧ Aside0 (spec_l3Bytes.l1 kq a1 x13_2 = some (r1, r2)) ∧ Aside0 (kq ≤ kj15) ∧ Aside0 (Below w.heap.size w w'))
    case atStart => exact ⟨(0), rs_, H', ⟨Nat.le_refl _⟩, ⟨bq0_⟩⟩
    case round =>
     clear H'
     try clear c1
     try clear p1
     try clear q1
     try clear hx1
     try clear p2
     try clear c3
     try clear c3b0
     try clear c3b1
     try clear c5
     try clear p6
     try clear c7
     try clear c7b0
     try clear c8
     try clear c8b0
     try clear c9
     try clear c9b0
     try clear c10
     try clear c11
     try clear c12
     try clear c14
     try clear c14b0
     try clear c14b1
     try clear c14b2
     try clear p16
     try clear q16
     try clear hx16
     try clear c17
     try clear c17b0
     try clear c17b1
     try clear c18
     try clear c25
     try clear c25b0
     try clear c25b1
     try clear c30
     try clear c30b0
     try clear c30b1
     try clear c56
     try clear c56b0
     try clear c56b1
     try clear hx164_0
     try clear p1
     try clear p16
     try clear p164
     try clear p2
     try clear p6
     try clear q1
     try clear q16
     try clear q164
     obtain ⟨x13_2, rfl, HA, HK2, HB⟩ := hrel
     cases gk with
     | zero => exact absurd HA.out (by simp [spec_l3Bytes.l1])
     | succ k2 =>
      have H := HA.out
      clear HA
      simp only [spec_l3Bytes.l1] at H
      by_cases c57 : x13_2 < (a1.size : Int)
      case neg =>
       rw [if_neg c57] at H
       have c57b0 := decide_eq_false c57
       clear c57
       obtain ⟨y186, hy186⟩ : ∃ y_ : List Int, y_ = (([((a1.size : Int)) % 256] : List Int)) := ⟨_, rfl⟩
       replace H := by_ hy186 H
       have Ny186 := a0_ hy186
       clear hy186
       by_cases c63 : (strOfNums y186).size + a1.size ≤ 9223372036854775807
       case neg =>
        rw [if_neg c63] at H
        exact absurd H (by simp)
       rw [if_pos c63] at H
       have c63b0 := eq_true c63
       have c63b1 := decide_eq_true c63
       try have c63b2 : (9223372036854775807 < (strOfNums y186).size + a1.size) = False := eq_false (Nat.not_lt.2 c63)
       simp only [Option.some.injEq, Prod.mk.injEq] at H
       obtain ⟨rfl, rfl⟩ := H
       go_wp2_with (first | ((with_reducible refine gate_dst (N := 108) rfl ?_); refine Kd.R_lit (Kd.int .u8) _ 5 ?hg (N := 108) ?hd (xs := ([((a1.size : Int)) % 256] : List Int)) (inner := [.int .u8 (((a1.size : Int)) % 256)]) (ok := fun _ => True) (okp := fun _ => True) ?hr ?hp (fun _ hk => hk) trivial (Below.refl _ _) (Nat.le_refl _) (by simp) ?_; (case hd => rfl); (case hg => rfl); (case hr => first | (go_simp; done) | (go_simp; rfl)); (case hp => exact (Reps.one (show Kd.M (Kd.int .u8) _ _ _ (((a1.size : Int)) % 256) [.int .u8 (((a1.size : Int)) % 256)] from rfl) (Reps.none _ _))); intro v187 w64 ho65 hb hg_ hnew_; clear hg_ hnew_; (first | rw [← Ny186.out] at ho65 | (simp only [Int.reduceToNat] at ho65; rw [← Ny186.out] at ho65)); have HO188 := a0_ (Kd.R_lower ho65 (below_size bq0_)); replace HB := a0_ (below_step bq0_ hb); clear hb ho65; have hcv66 := own_string (P := Tryz.prog) Tryz.underlying43 Tryz.underlying5 Tryz.underlying9 (Kd.own_of_R HO188.out)))
       go_ret2
       exact ⟨rr_, bq0_⟩
      rw [if_pos c57] at H
      have c57b0 := decide_eq_true c57
      clear c57
      by_cases c58 : 0 ≤ x13_2
      case neg =>
       rw [if_neg c58] at H
       exact absurd H (by simp)
      rw [if_pos c58] at H
      have c58b0 := decide_eq_true c58
      clear c58
      by_cases c60 : (bt a1 x13_2) < 32
      case pos =>
       rw [if_pos c60] at H
       have c60b0 := decide_eq_true c60
       clear c60
       simp only [Option.some.injEq, Prod.mk.injEq] at H
       obtain ⟨rfl, rfl⟩ := H
       have p59 := t0_ (x13_2)
       have q59 := tl_ (x13_2) (a1.size)
       have hx59 := bt_at a1 x13_2
       go_wp2
       go_ret2
       exact ⟨rr_, bq0_⟩
      rw [if_neg c60] at H
      have c60b0 := decide_eq_false c60
      clear c60
      by_cases c62 : (bt a1 x13_2) > 126
      case pos =>
       rw [if_pos c62] at H
       have c62b0 := decide_eq_true c62
       clear c62
       simp only [Option.some.injEq, Prod.mk.injEq] at H
       obtain ⟨rfl, rfl⟩ := H
       have p59 := t0_ (x13_2)
       have q59 := tl_ (x13_2) (a1.size)
       have hx59 := bt_at a1 x13_2
       have p61 := t0_ (x13_2)
       have q61 := tl_ (x13_2) (a1.size)
       have hx61 := bt_at a1 x13_2
       go_wp2
       go_ret2
       exact ⟨rr_, bq0_⟩
      rw [if_neg c62] at H
      have c62b0 := decide_eq_false c62
      clear c62
      have H' := a0_ H
      clear H
      have p59 := t0_ (x13_2)
      have q59 := tl_ (x13_2) (a1.size)
      have hx59 := bt_at a1 x13_2
      have p61 := t0_ (x13_2)
      have q61 := tl_ (x13_2) (a1.size)
      have hx61 := bt_at a1 x13_2
      go_wp2
      go_roundg k2
      case measure => have := HJ15.out; have := HK2.out; omega
      case rel => exact ⟨(wrap64 (x13_2 + 1)), rs_, H', jm_ HJ15 HK2, ⟨bq0_⟩⟩
   rw [if_pos c30] at H
   have c30b0 := beq_iff_eq.mpr c30
   have c30b1 := bne_eq_false_iff_eq.mpr c30
   clear c30
   obtain ⟨t173, A31, H⟩ := ob_ H
   have HC32 := a0_ H
   clear H
   go_upto_region 24 with (first | ((with_reducible refine gt_ 116 rfl ?_); refine gs_ 58 Tryz.func116 #[.string a1, .int .u8 32] ?_; (with_reducible refine (spec_l1Split.calls kj15 a1 32 t173 _ A31.out).mono ?_); rintro e w33 ⟨v174, rfl, ho0, hb⟩; refine ⟨_, rfl, ?_⟩; have HO175 := a0_ (Kd.R_lower ho0 (below_size bq0_)); replace HB := a0_ (below_step bq0_ hb); clear hb; (try clear ho0)))
   (try simp only [Act.put, List.setIfInBounds_toArray, List.set_cons_zero, List.set_cons_succ])
   go_cut [76] (fun v76 wc => ∃ (kq : Nat) (x76_31 : Bool), v76 = .bool x76_31 ∧ Aside0 (spec_l3Bytes.j2 kq t173 x76_31 = some (r1, r2)) ∧ Aside0 (kq ≤ kj15) ∧ Aside0 (Kd.R Kd.string 9 wc w.heap.size (fun _ => True) v174 t173) ∧ Aside0 (Below w.heap.size w wc))
   case first =>
    have H := HC32.out
    clear HC32
    by_cases c34 : (t173.length : Int) = 2
    case neg =>
     rw [if_neg c34] at H
     have c34b0 := beq_eq_false_iff_ne.mpr c34
     have c34b1 := bne_iff_ne.mpr c34
     (first | rw [c34b0] | (simp only [i64_w, i32_w]; rw [c34b0]) | skip)
     have H' := a0_ H
     clear H
     obtain ⟨Ao44, co44, eo44⟩ := Kd.R_slice HO175.out
     subst eo44
     go_wp2
     go_meet
     case rel => exact ⟨_, (true), rs_, H', jl_ HJ15, ⟨kR_ HO175.out⟩, ⟨bq0_⟩⟩
    rw [if_pos c34] at H
    have c34b0 := beq_iff_eq.mpr c34
    have c34b1 := bne_eq_false_iff_eq.mpr c34
    clear c34
    (first | rw [c34b0] | (simp only [i64_w, i32_w]; rw [c34b0]) | skip)
    by_cases c35 : 0 < (t173.length : Int)
    case neg =>
     rw [if_neg c35] at H
     exact absurd H (by simp)
    rw [if_pos c35] at H
    have c35b0 := decide_eq_true c35
    have c35b1 : decide (0 < t173.length) = true := decide_eq_true (by omega)
    clear c35
    obtain ⟨t177, A36, H⟩ := ob_ H
    obtain ⟨t178, A37, H⟩ := ob_ H
    by_cases c38 : t178 = true
    case neg =>
     replace c38 := Bool.eq_false_iff.mpr c38
     subst c38
     rw [if_neg ff_] at H
     have H' := a0_ H
     clear H
     obtain ⟨Ao43, co43, eo43⟩ := Kd.R_slice HO175.out
     subst eo43
     have p176 : 0 ≤ (0 : Int) := (by omega)
     have q176 : 0 < (t173.length : Int) := dec_
     obtain ⟨ad176, e176, hx176_0⟩ := Kd.at_string (Kd.R_reads' HO175.out).2.2 0 p176 q176
     cases e176
     have qi176 : (0 < t173.length) = True := eq_true (by omega)
     (try rw [show ((0 : Int)).toNat = 0 from rfl] at hx176_0)
     (try rw [Addr.add_zero'] at hx176_0)
     replace p176 := eq_true p176
     replace q176 := eq_true q176
     go_wp2_with (first | (go_at_call 117; (with_reducible refine (spec_l1Int.calls kj15 (rdOf ByteArray.empty t173 0) t177 _ A36.out).mono ?_); rintro e w' ⟨rfl, ⟨nd, rfl⟩⟩) | (go_at_call 102; (with_reducible refine (spec_l1In.calls t177 0 65535 false _ A37.out).mono ?_); rintro e w' ⟨rfl, ⟨nd, rfl⟩⟩))
     go_meet
     case rel => exact ⟨_, (true), rs_, H', jl_ HJ15, ⟨kR_ HO175.out⟩, ⟨bq0_⟩⟩
    subst c38
    rw [if_pos rfl] at H
    by_cases c39 : 1 < (t173.length : Int)
    case neg =>
     rw [if_neg c39] at H
     exact absurd H (by simp)
    rw [if_pos c39] at H
    have c39b0 := decide_eq_true c39
    have c39b1 : decide (1 < t173.length) = true := decide_eq_true (by omega)
    clear c39
    obtain ⟨t180, A40, H⟩ := ob_ H
    have H' := a0_ H
    clear H
    obtain ⟨Ao41, co41, eo41⟩ := Kd.R_slice HO175.out
    subst eo41
    have p176 : 0 ≤ (0 : Int) := (by omega)
    have q176 : 0 < (t173.length : Int) := dec_
    obtain ⟨ad176, e176, hx176_0⟩ := Kd.at_string (Kd.R_reads' HO175.out).2.2 0 p176 q176
    cases e176
    have qi176 : (0 < t173.length) = True := eq_true (by omega)
    (try rw [show ((0 : Int)).toNat = 0 from rfl] at hx176_0)
    (try rw [Addr.add_zero'] at hx176_0)
    replace p176 := eq_true p176
    replace q176 := eq_true q176
    go_wp2_with (first | (go_at_call 117; (with_reducible refine (spec_l1Int.calls kj15 (rdOf ByteArray.empty t173 0) t177 _ A36.out).mono ?_); rintro e w' ⟨rfl, ⟨nd, rfl⟩⟩) | (go_at_call 102; (with_reducible refine (spec_l1In.calls t177 0 65535 true _ A37.out).mono ?_); rintro e w' ⟨rfl, ⟨nd, rfl⟩⟩; have p179 : 0 ≤ (1 : Int) := (by omega); have q179 : 1 < (t173.length : Int) := dec_; obtain ⟨ad179, e179, hx179_0⟩ := Kd.at_string (Kd.R_reads' HO175.out).2.2 1 p179 q179; obtain rfl : ad176 = ad179 := (by injection e179); (try simp only [show (1 : Int).toNat = 1 from rfl, Nat.reduceMul, Nat.reduceEqDiff, Go.Addr.add, ↓reduceIte] at hx179_0); have qi179 : (1 < t173.length) = True := eq_true (by omega); (try rw [show ((1 : Int)).toNat = 1 from rfl] at hx179_0); replace p179 := eq_true p179; replace q179 := eq_true q179) | (go_at_call 119; (with_reducible refine (spec_l3Target.calls kj15 (rdOf ByteArray.empty t173 1) t180 _ A40.out).mono ?_); rintro e w42 ⟨rfl, hb⟩; replace HO175 := a0_ (Kd.R_below (kR_ HO175.out) hb); replace HB := a0_ (below_step bq0_ hb); clear hb))
    go_meet
    case rel => exact ⟨_, (!t180), rs_, H', jl_ HJ15, ⟨kR_ HO175.out⟩, ⟨bq0_⟩⟩
   case rest =>
    clear HC32
    try clear c1
    try clear p1
    try clear q1
    try clear hx1
    try clear p2
    try clear c3
    try clear c3b0
    try clear c3b1
    try clear c5
    try clear p6
    try clear c7
    try clear c7b0
    try clear c8
    try clear c8b0
    try clear c9
    try clear c9b0
    try clear c10
    try clear c11
    try clear c12
    try clear c14
    try clear c14b0
    try clear c14b1
    try clear c14b2
    try clear p16
    try clear q16
    try clear hx16
    try clear c17
    try clear c17b0
    try clear c17b1
    try clear c18
    try clear c25
    try clear c25b0
    try clear c25b1
    try clear c30
    try clear c30b0
    try clear c30b1
    try clear hx164_0
    try clear p1
    try clear p16
    try clear p164
    try clear p2
    try clear p6
    try clear q1
    try clear q16
    try clear q164
    obtain ⟨kq, x76_31, rfl, HA, HJ31, HO_12, HB⟩ := hcut
    cases kq with
    | zero => exact absurd HA.out (by simp [spec_l3Bytes.j2])
    | succ kj31 =>
     have H := HA.out
     clear HA
     simp only [spec_l3Bytes.j2] at H
     by_cases c45 : x76_31 = true
     case pos =>
      subst c45
      rw [if_pos rfl] at H
      simp only [Option.some.injEq, Prod.mk.injEq] at H
      obtain ⟨rfl, rfl⟩ := H
      go_wp2
      go_ret2
      exact ⟨rr_, bq0_⟩
     replace c45 := Bool.eq_false_iff.mpr c45
     subst c45
     rw [if_neg ff_] at H
     by_cases c46 : 0 < (t173.length : Int)
     case neg =>
      rw [if_neg c46] at H
      exact absurd H (by simp)
     rw [if_pos c46] at H
     have c46b0 := decide_eq_true c46
     have c46b1 : decide (0 < t173.length) = true := decide_eq_true (by omega)
     clear c46
     obtain ⟨t182, A47, H⟩ := ob_ H
     obtain ⟨t183, A48, H⟩ := ob_ H
     by_cases c49 : 1 < (t173.length : Int)
     case neg =>
      rw [if_neg c49] at H
      exact absurd H (by simp)
     rw [if_pos c49] at H
     have c49b0 := decide_eq_true c49
     have c49b1 : decide (1 < t173.length) = true := decide_eq_true (by omega)
     clear c49
     obtain ⟨t185, A50, H⟩ := ob_ H
     by_cases c51 : t183.size + t185.size ≤ 9223372036854775807
     case neg =>
      rw [if_neg c51] at H
      exact absurd H (by simp)
     rw [if_pos c51] at H
     have c51b0 := eq_true c51
     have c51b1 := decide_eq_true c51
     try have c51b2 : (9223372036854775807 < t183.size + t185.size) = False := eq_false (Nat.not_lt.2 c51)
     simp only [Option.some.injEq, Prod.mk.injEq] at H
     obtain ⟨rfl, rfl⟩ := H
     try go_wp2
     replace HO_12 := a0_ (Kd.R_drew HO_12.out)
     replace HB := a0_ (below_drew1 HB.out)
     obtain ⟨Ao53, co53, eo53⟩ := Kd.R_slice HO_12.out
     (first | subst eo53 | (injection eo53 with f1_ f2_ f3_; have f4_ := f1_.symm; have f5_ := f3_.symm; clear f1_ f2_ f3_; subst f4_; subst f5_))
     have p181 : 0 ≤ (0 : Int) := (by omega)
     have q181 : 0 < (t173.length : Int) := dec_
     obtain ⟨ad181, e181, hx181_0⟩ := Kd.at_string (Kd.R_reads' HO_12.out).2.2 0 p181 q181
     cases e181
     have qi181 : (0 < t173.length) = True := eq_true (by omega)
     (try rw [show ((0 : Int)).toNat = 0 from rfl] at hx181_0)
     (try rw [Addr.add_zero'] at hx181_0)
     replace p181 := eq_true p181
     replace q181 := eq_true q181
     have p184 : 0 ≤ (1 : Int) := (by omega)
     have q184 : 1 < (t173.length : Int) := dec_
     obtain ⟨ad184, e184, hx184_0⟩ := Kd.at_string (Kd.R_reads' HO_12.out).2.2 1 p184 q184
     obtain rfl : ad181 = ad184 := (by injection e184)
     (try simp only [show (1 : Int).toNat = 1 from rfl, Nat.reduceMul, Nat.reduceEqDiff, Go.Addr.add, ↓reduceIte] at hx184_0)
     have qi184 : (1 < t173.length) = True := eq_true (by omega)
     (try rw [show ((1 : Int)).toNat = 1 from rfl] at hx184_0)
     replace p184 := eq_true p184
     replace q184 := eq_true q184
     refine stH_ 12 [] (c1_ hx181_0 (e1_ hx184_0)) (fun hHeld => ?_); refine with_tabW spec_l3Bytes.tab26 spec_l3Bytes.bits26 (fun HT_ HW_ => ?_)
     generalize wc.drew = w52 at HO_12 HB hx181_0 hx184_0 hHeld ⊢
     refine p_ 0 77 ?_
     refine p_ 1 78 ?_
     refine p_ 5 82 ?_
     refine p_ 6 83 ?_
     refine t_ 2 79 ?_
     refine t_ 7 84 ?_
     refine oneS_ 3 (some 80) (fun K hK => ?_)
     refine goes_ Tryz.func117 (by kernel_rfl) rfl #[.string (rdOf ByteArray.empty t173 0)] (by rfl) rfl rfl argsS_ ?_
     with_reducible refine (spec_l1Int.calls kj31 (rdOf ByteArray.empty t173 0) t182 _ A47.out).mono ?_
     rintro e w' ⟨rfl, ⟨nd, rfl⟩⟩
     refine ⟨_, rfl, ?_⟩
     refine hK.out _ _ (c1_ hHeld.1 (e1_ hHeld.2)).out (fun hHeld => ?_)
     clear hK K
     refine normS_ ?_
     refine oneS_ 4 (some 81) (fun K hK => ?_)
     refine goes_ Tryz.func118 (by kernel_rfl) rfl #[.int .i64 t182, .int .i64 2] (by rfl) rfl rfl argsS_ ?_
     with_reducible refine (spec_l3Number.calls kj31 t182 2 t183 _ A48.out).mono ?_
     rintro e w54 ⟨rfl, hb⟩
     have HS0_ := (hb.cell (World.block_lt_of_cell? _ _ (hHeld.1))).trans (hHeld.1)
     have HS1_ := (hb.cell (World.block_lt_of_cell? _ _ (hHeld.2))).trans (hHeld.2)
     refine ⟨_, rfl, ?_⟩
     replace HO_12 := a0_ (Kd.R_below (kR_ HO_12.out) hb)
     replace HB := a0_ (below_step bq0_ hb)
     (try clear hb)
     (try clear hb2)
     (try clear hk)
     (try clear hi)
     refine hK.out _ _ (c1_ HS0_ (e1_ HS1_)).out (fun hHeld => ?_)
     clear hK K
     refine normS_ ?_
     refine oneS_ 8 (some 85) (fun K hK => ?_)
     refine goes_ Tryz.func120 (by kernel_rfl) rfl #[.string (rdOf ByteArray.empty t173 1)] (by rfl) rfl rfl argsS_ ?_
     with_reducible refine (spec_l2Bytes.calls kj31 (rdOf ByteArray.empty t173 1) t185 _ A50.out).mono ?_
     rintro e w55 ⟨rfl, hb⟩
     have HS0_ := (hb.cell (World.block_lt_of_cell? _ _ (hHeld.1))).trans (hHeld.1)
     have HS1_ := (hb.cell (World.block_lt_of_cell? _ _ (hHeld.2))).trans (hHeld.2)
     refine ⟨_, rfl, ?_⟩
     replace HO_12 := a0_ (Kd.R_below (kR_ HO_12.out) hb)
     replace HB := a0_ (below_step bq0_ hb)
     (try clear hb)
     (try clear hb2)
     (try clear hk)
     (try clear hi)
     refine hK.out _ _ (c1_ HS0_ (e1_ HS1_)).out (fun hHeld => ?_)
     clear hK K
     refine normS_ ?_
     refine p_ 9 86 ?_
     refine p_ 10 4 ?_
     refine p_ 11 5 ?_
     refine done_ (done_of HT_.out (by kernel_rfl)) ?_
     try go_wp2
     go_ret2
     exact ⟨rr_, bq0_⟩
end Go.Proofs.YtiegkjimpclmaaaGreatDoor.P
namespace Go.Proofs.YtiegkjimpclmaaaGreatDoor.P
theorem builderX : Builder.Extra Tryz.prog Tryz.lays156_ren where
 sizeBuilder := by kernel_rfl
 liesBuilder := by kernel_rfl
 t5 := Tryz.underlying5
 a5 := Tryz.isAgg5
 z5 := Tryz.sizeOf5
 v5 := Tryz.zeroValue5
 infoByte := by kernel_rfl
 cellsByte := by kernel_rfl
 sizeByte := by kernel_rfl
 neB5 := by decide
def joinL (l : List ByteArray) : List UInt8 := Lib.join (l.map (·.data.toList)) [46]
theorem spot_R {T : Nat} {w : World} {b : Nat} {ok : Nat → Prop} {A : Option Addr} {n c : Nat} {xs : List ByteArray} (h : Kd.R Kd.string T w b ok (.slice A n c) xs) : ∀ ad, A = some ad → ad.spot = none := by
 intro ad e
 obtain ⟨cs, hown, _⟩ := h.2
 rcases hown.2 with ⟨h1, _⟩ | ⟨g, cap, cur, h1, _⟩
 · injection h1 with h2
   rw [e] at h2
   cases h2
 · injection h1 with h2
   rw [e] at h2
   injection h2 with h2
   rw [h2]
theorem join_calls (A : Option Addr) (c : Nat) (xs : List ByteArray) (w : World) (hr : Kd.C Kd.string w A xs.length xs) (hc : xs.length ≤ c) (hs : ∀ ad, A = some ad → ad.spot = none)
 (hl : (joinL xs).length ≤ 140737488355328) (hn : xs.length ≤ 8) :
 Calls Tryz.prog 57 #[.slice A xs.length c, .string (⟨#[46]⟩ : ByteArray)] w fun e w' => e = .returned (.string (mkB (joinL xs))) ∧ Below w.heap.size w w' := by
 cases xs with
 | nil => exact (Any.strings_Join_none Tryz.lays156 builderX A c _ w).mono fun e w' ⟨he, hw⟩ => ⟨he, hw ▸ Below.refl _ _⟩
 | cons x r =>
  obtain ⟨ad, rfl, hx⟩ := Kd.at_string hr 0 (by omega) (by simp)
  have hsp := hs ad rfl
  obtain ⟨bk, o, sp⟩ := ad
  simp only at hsp
  subst hsp
  refine Any.strings_Join Tryz.lays156 builderX bk o c (x :: r) (⟨#[46]⟩ : ByteArray) w ?_ (World.block_lt_of_cell? _ _ hx) (by omega) hc hl
  intro j y hj
  have hjl : j < (x :: r).length := (List.getElem?_eq_some_iff.1 hj).1
  obtain ⟨ad, e0, hx⟩ := Kd.at_string hr (j : Int) (by omega) (by omega)
  cases e0
  rw [Int.toNat_natCast] at hx
  have hy : rdOf ByteArray.empty (x :: r) (j : Int) = y := by
   unfold rdOf
   rw [Int.toNat_natCast, List.getD_eq_getElem?_getD, hj]
   rfl
  rw [hy] at hx
  by_cases hj0 : j = 0
  · subst hj0
    simpa [Addr.add] using hx
  · simpa [Addr.add, hj0] using hx
theorem joinL_len (l : List ByteArray) (h : ∀ x ∈ l, x.size ≤ 20) : (joinL l).length ≤ l.length * 21 := by
 unfold joinL
 cases l with
 | nil => simp [Lib.join_nil]
 | cons x r =>
  rw [List.map_cons, Lib.join_cons, List.length_append]
  have h1 := h x List.mem_cons_self
  have h2 : ∀ m : List ByteArray, (∀ y ∈ m, y.size ≤ 20) → (Lib.joinTail [46] (m.map (·.data.toList))).length ≤ m.length * 21 := by
   intro m
   induction m with
   | nil => intro _; simp [Lib.joinTail]
   | cons y m ih =>
    intro hy
    have := hy y List.mem_cons_self
    have := ih fun z hz => hy z (List.mem_cons_of_mem _ hz)
    simp [Lib.joinTail] at this ⊢
    rw [size_len] at *
    simp at *
    omega
  have h3 := h2 r fun y hy => h y (List.mem_cons_of_mem _ hy)
  rw [size_len] at h1
  simp only [List.length_cons]
  omega
theorem label_size {l : List UInt8} (h : isLabelL l = true) : l.length ≤ 20 := by
 unfold isLabelL at h
 simp only [Bool.or_eq_true, Bool.and_eq_true, decide_eq_true_eq, beq_iff_eq] at h
 rcases h with rfl | h
 · simp
 · exact h.1.2
def nameR (l : List ByteArray) : ByteArray × Bool :=
 if decide (l.length ≤ 8) && l.all (fun x => isLabelL x.data.toList) then (if goodL (joinL l) = true then (mkB (joinL l), true) else ((⟨#[]⟩ : ByteArray), false)) else ((⟨#[]⟩ : ByteArray), false)
def impl_NameOf.f (l : List ByteArray) : Option (ByteArray × Bool) := some (nameR l)
theorem name_closure (x : ByteArray) (W : World) : Calls Tryz.prog 207 #[.string x] W fun e W' => e = .returned (.bool (!isLabelL x.data.toList)) ∧ Below W.heap.size W W' :=
 impl_NameOf_1.calls x _ W (by unfold impl_NameOf_1.f; rw [isLabel_eq]; rfl)
set_option maxHeartbeats 4000000 in
theorem impl_NameOf.calls (A0 : Option Addr) (c0 : Nat) (l0 : List ByteArray) (r1 : ByteArray) (r2 : Bool) (w : World) (hr0 : Kd.C Kd.string w A0 l0.length l0) (hc0 : l0.length ≤ c0) (h : impl_NameOf.f l0 = some (r1, r2))
 (hs : ∀ ad, A0 = some ad → ad.spot = none := by first | exact spot_R (Aside0.out (by assumption)) | exact spot_R (by assumption)) :
 Calls Tryz.prog 175 #[.slice A0 l0.length c0] w fun e w' => e = .returned (.tuple #[.string r1, .bool r2]) ∧ Below w.heap.size w w' := by
 have HR : Aside0 (nameR l0 = (r1, r2)) := ⟨Option.some.inj h⟩
 clear h
 unfold nameR at HR
 by_cases h8 : l0.length ≤ 8
 · have eg : ∀ args w, (callFunc 207 args).run Tryz.prog w = .ok (.enter 207 args) w := enters_of Tryz.func207 (by kernel_rfl) rfl
   have cc := contains_str A0 c0 l0 207 #[] (fun x => !isLabelL x.data.toList) w hr0 eg (fun x _ W' _ => name_closure x W')
   have hany : l0.any (fun x => !isLabelL x.data.toList) = !l0.all (fun x => isLabelL x.data.toList) := by rw [List.not_all_eq_any_not]
   rw [hany] at cc
   rw [decide_eq_true h8, Bool.true_and] at HR
   have h8a : decide (8 < l0.length) = false := decide_eq_false (by omega)
   have h8b : decide ((8 : Int) < (l0.length : Int)) = false := decide_eq_false (by omega)
   have hsz := Aside0.mk (fun (ha : l0.all (fun x => isLabelL x.data.toList) = true) => joinL_len l0 (fun x hx => by
    rw [size_len]; exact label_size (List.all_eq_true.1 ha x hx)))
   cases ha : l0.all (fun x => isLabelL x.data.toList) with
   | false =>
    rw [ha] at cc
    rw [ha, if_neg (by simp)] at HR
    obtain ⟨rfl, rfl⟩ := Prod.mk.inj HR.out
    clear HR hsz ha hany
    go_enter Tryz.func175, Tryz.ntmps175
    go_wp2_with (first | (go_at_call 145; refine cc.mono ?_; rintro e w1 ⟨rfl, hb⟩))
    go_ret2
    exact ⟨rfl, hb⟩
   | true =>
    rw [ha] at cc
    rw [ha, if_pos rfl] at HR
    have hlen := hsz.out ha
    have hjs : (joinL l0).length < 4294967281 := by omega
    clear hsz ha hany
    have hj := Aside0.mk (fun W (hb : Below w.heap.size w W) => join_calls A0 c0 l0 W (Kd.C_below hr0 hb) hc0 hs (by omega) h8)
    have gc := fun W => impl_GoodName.calls (mkB (joinL l0)) _ W rfl
    rw [mkB_data] at gc
    clear hlen
    cases hg : goodL (joinL l0) with
    | true =>
     rw [hg] at gc
     rw [hg, if_pos rfl] at HR
     obtain ⟨rfl, rfl⟩ := Prod.mk.inj HR.out
     clear HR hg
     go_enter Tryz.func175, Tryz.ntmps175
     go_wp2_with (first | (go_at_call 145; refine cc.mono ?_; rintro e w1 ⟨rfl, hb⟩) | (go_at_call 57; refine (hj.out _ hb).mono ?_; rintro e w2 ⟨rfl, hb2⟩) | (go_at_call 83; refine (gc _).mono ?_; rintro e w3 ⟨rfl, hb3⟩))
     go_ret2
     exact ⟨rfl, below_then (below_then hb hb.size hb2) (below_then hb hb.size hb2).size hb3⟩
    | false =>
     rw [hg] at gc
     rw [hg, if_neg (by simp)] at HR
     obtain ⟨rfl, rfl⟩ := Prod.mk.inj HR.out
     clear HR hg
     go_enter Tryz.func175, Tryz.ntmps175
     go_wp2_with (first | (go_at_call 145; refine cc.mono ?_; rintro e w1 ⟨rfl, hb⟩) | (go_at_call 57; refine (hj.out _ hb).mono ?_; rintro e w2 ⟨rfl, hb2⟩) | (go_at_call 83; refine (gc _).mono ?_; rintro e w3 ⟨rfl, hb3⟩))
     go_ret2
     exact ⟨rfl, below_then (below_then hb hb.size hb2) (below_then hb hb.size hb2).size hb3⟩
 · have h8a : decide (8 < l0.length) = true := decide_eq_true (by omega)
   have h8b : decide ((8 : Int) < (l0.length : Int)) = true := decide_eq_true (by omega)
   rw [decide_eq_false h8, Bool.false_and, if_neg (by simp)] at HR
   obtain ⟨rfl, rfl⟩ := Prod.mk.inj HR.out
   clear HR h8
   go_enter Tryz.func175, Tryz.ntmps175
   go_wp2
   go_ret2
   exact ⟨rfl, Below.refl _ _⟩
end Go.Proofs.YtiegkjimpclmaaaGreatDoor.P
namespace Go.Proofs.YtiegkjimpclmaaaGreatDoor.Pure
open Go.Proofs.YtiegkjimpclmaaaGreatDoor.P
theorem w64n {n : Nat} (h : n < 4611686018427387904) : wrap64 ((n : Int) + 1) = ((n + 1 : Nat) : Int) := by unfold wrap64; omega
theorem bt_list (s : ByteArray) (i : Nat) (h : i < s.data.toList.length) : bt s (i : Int) = ((s.data.toList[i]'h).toNat : Int) := by
 unfold bt
 have h2 : (i : Int).toNat < s.size := by rw [size_len]; omega
 rw [dif_pos h2]
 rfl
theorem ext_mkB (s : ByteArray) (a b : Nat) : s.extract a b = mkB ((s.data.toList.drop a).take (b - a)) := by
 apply ext_data
 rw [mkB_data]
 simp [ByteArray.data_extract]
theorem ext_end (s : ByteArray) (a : Nat) : s.extract a s.size = mkB (s.data.toList.drop a) := by
 rw [ext_mkB, List.take_of_length_le (by rw [List.length_drop, size_len]; omega)]
theorem split_loop (s : ByteArray) (hs : s.size < 1099511627776) : ∀ (m i a : Nat) (acc : List ByteArray), i + m = s.size → a ≤ i → (∀ x ∈ (s.data.toList.drop a).take (i - a), x ≠ 46) → acc.length ≤ a →
 spec_l1Split.l0 (m + 1) s 46 acc (a : Int) (i : Int) = some (acc ++ (splitL 46 (s.data.toList.drop a)).map mkB)
 | 0, i, a, acc, him, hai, hx, hacc => by
  unfold spec_l1Split.l0
  rw [if_neg (by omega), if_pos (by omega), if_pos (by omega), if_pos (by omega)]
  rw [List.take_of_length_le (by rw [List.length_drop, ← size_len]; omega)] at hx
  rw [splitL_none 46 _ hx, Int.toNat_natCast, ext_end]
  rfl
 | m + 1, i, a, acc, him, hai, hx, hacc => by
  have hi : i < s.data.toList.length := by rw [← size_len]; omega
  unfold spec_l1Split.l0
  rw [if_pos (by omega), if_pos (by omega), bt_list s i hi, w64n (by omega)]
  have hd : s.data.toList.drop a = (s.data.toList.drop a).take (i - a) ++ s.data.toList[i] :: s.data.toList.drop (i + 1) := by
   conv => lhs; rw [← List.take_append_drop (i - a) (s.data.toList.drop a)]
   congr 1
   rw [List.drop_drop, show a + (i - a) = i by omega, List.drop_eq_getElem_cons hi]
  by_cases h : s.data.toList[i] = 46
  · rw [if_pos (by rw [h]; rfl), if_pos (by omega), if_pos (by omega), if_pos (by omega), if_pos (by omega), Int.toNat_natCast, Int.toNat_natCast, ext_mkB]
    rw [split_loop s hs m (i + 1) (i + 1) _ (by omega) (by omega) (by simp) (by simp; omega)]
    conv => rhs; rw [hd, h, splitL_hit 46 _ _ hx]
    simp
  · rw [if_neg (by intro e; apply h; apply UInt8.toNat_inj.1; simpa using Int.ofNat.inj e)]
    refine split_loop s hs m (i + 1) a acc (by omega) (by omega) ?_ hacc
    intro x hm
    rw [show i + 1 - a = (i - a) + 1 by omega, List.take_add_one] at hm
    rcases List.mem_append.1 hm with hm | hm
    · exact hx x hm
    · rw [List.getElem?_drop, show a + (i - a) = i by omega, List.getElem?_eq_getElem hi] at hm
      obtain rfl : x = s.data.toList[i] := by simpa using hm
      exact h
theorem split_ev (s : ByteArray) (hs : s.size < 1099511627776) : Ev (fun k => spec_l1Split.f k s 46) ((splitL 46 s.data.toList).map mkB) := by
 refine Ev.of (fun k => spec_l1Split.mono _ _ _) (k := s.size + 1) ?_
 unfold spec_l1Split.f
 have := split_loop s hs s.size 0 0 [] (by omega) (by omega) (by simp) (by simp)
 simpa using this
theorem within_spec (n a b : Int) : spec_l1In.f n a b = some (decide (a ≤ n ∧ n ≤ b)) := by
 unfold spec_l1In.f
 by_cases h : n ≥ a
 · rw [if_pos h]; congr 1; rw [decide_eq_decide]; omega
 · rw [if_neg h]; congr 1; rw [eq_comm, decide_eq_false_iff_not]; omega
theorem label_loop (s : ByteArray) (hs : s.size < 1099511627776) : ∀ (m i : Nat), i + m = s.size →
 spec_l1Label.l0 (m + 1) s (i : Int) = some ((s.data.toList.drop i).all labelByte && decide (1 ≤ s.data.toList.length ∧ s.data.toList.length ≤ 20))
 | 0, i, him => by
  unfold spec_l1Label.l0
  rw [if_neg (by omega), within_spec, List.drop_of_length_le (by rw [← size_len]; omega)]
  simp only [Option.bind_some, List.all_nil, Bool.true_and]
  congr 1
  rw [decide_eq_decide, ← size_len]
  omega
 | m + 1, i, him => by
  have hi : i < s.data.toList.length := by rw [← size_len]; omega
  have ih := label_loop s hs m (i + 1) (by omega)
  unfold spec_l1Label.l0
  rw [if_pos (by omega), if_pos (by omega), w64n (by omega), ih, bt_list s i hi, List.drop_eq_getElem_cons hi, List.all_cons]
  generalize (List.drop (i + 1) s.data.toList).all labelByte = rest
  generalize decide (1 ≤ s.data.toList.length ∧ s.data.toList.length ≤ 20) = len
  generalize s.data.toList[i] = b
  have hb : labelByte b = decide ((97 ≤ (b.toNat : Int) ∧ (b.toNat : Int) ≤ 122) ∨ (48 ≤ (b.toNat : Int) ∧ (b.toNat : Int) ≤ 57) ∨ (b.toNat : Int) = 45 ∨ (b.toNat : Int) = 95) := by
   unfold labelByte
   rw [Bool.eq_iff_iff]
   have h45 : b = 45 ↔ (b.toNat : Int) = 45 := by rw [← UInt8.toNat_inj]; exact ⟨fun h => by rw [h]; rfl, fun h => Int.ofNat.inj h⟩
   have h95 : b = 95 ↔ (b.toNat : Int) = 95 := by rw [← UInt8.toNat_inj]; exact ⟨fun h => by rw [h]; rfl, fun h => Int.ofNat.inj h⟩
   simp only [Bool.or_eq_true, decide_eq_true_eq, beq_iff_eq, h45, h95]
   omega
  rw [hb]
  generalize (b.toNat : Int) = v
  by_cases hv : (97 ≤ v ∧ v ≤ 122) ∨ (48 ≤ v ∧ v ≤ 57) ∨ v = 45 ∨ v = 95
  · rw [decide_eq_true hv, Bool.true_and]
    repeat' split
    all_goals first | rfl | omega
  · rw [decide_eq_false hv, Bool.false_and, Bool.false_and]
    repeat' split
    all_goals first | rfl | omega
theorem label_ev (s : ByteArray) (hs : s.size < 1099511627776) : Ev (fun k => spec_l1Label.f k s) (isLabelL s.data.toList) := by
 refine Ev.of (fun k => spec_l1Label.mono _ _) (k := s.size + 1) ?_
 unfold spec_l1Label.f isLabelL
 rw [Lib.toList_data]
 by_cases h : s.data.toList = [42]
 · rw [if_pos h, h]; rfl
 · rw [if_neg h, show (s.data.toList == [42]) = false from beq_eq_false_iff_ne.mpr h, Bool.false_or, Bool.and_comm]
   have := label_loop s hs s.size 0 (by omega)
   simpa using this
def labsR (s : ByteArray) (parts : List ByteArray) (i : Nat) : List ByteArray × Bool :=
 if (parts.drop i).all (fun p => isLabelL p.data.toList) then (if s.size ≤ 60 then (parts, decide (parts.length ≤ 8)) else (parts, false)) else ([], false)
theorem labels_loop (s : ByteArray) (parts : List ByteArray) (hp : ∀ p ∈ parts, p.size < 1099511627776) (hl : parts.length < 1099511627776) : ∀ (m i : Nat), i + m = parts.length →
 Ev (fun k => spec_l1Labels.l0 k s parts parts (parts.length : Int) (i : Int)) (labsR s parts i)
 | 0, i, him => by
  refine Ev.step (f := fun k => some (labsR s parts i)) (fun k => ?_) (Ev.now _)
  show spec_l1Labels.l0 (k + 1) s parts parts (parts.length : Int) (i : Int) = _
  unfold spec_l1Labels.l0 labsR
  rw [if_neg (by omega), List.drop_of_length_le (by omega)]
  simp only [List.all_nil, if_true]
  by_cases h : s.size ≤ 60
  · rw [if_pos (by omega), if_pos h]
    congr 2
    rw [decide_eq_decide]; omega
  · rw [if_neg (by omega), if_neg h]
 | m + 1, i, him => by
  have hi : i < parts.length := by omega
  have ih := labels_loop s parts hp hl m (i + 1) (by omega)
  have hrd : rdOf ByteArray.empty parts (i : Int) = parts[i] := by
   unfold rdOf
   rw [Int.toNat_natCast, List.getD_eq_getElem?_getD, List.getElem?_eq_getElem hi]
   rfl
  refine Ev.step (f := fun k => (spec_l1Label.f k parts[i]).bind fun t => if t = true then spec_l1Labels.l0 k s parts parts (parts.length : Int) ((i + 1 : Nat) : Int) else some ([], false)) (fun k => ?_) ?_
  · show spec_l1Labels.l0 (k + 1) s parts parts (parts.length : Int) (i : Int) = _
    conv => lhs; unfold spec_l1Labels.l0
    rw [if_pos (by omega), if_pos (by omega), if_pos (by omega), hrd, w64n (by omega)]
  · refine Ev.bind (label_ev _ (hp _ (List.getElem_mem hi))) ?_
    have hd : labsR s parts i = if isLabelL parts[i].data.toList = true then labsR s parts (i + 1) else ([], false) := by
     unfold labsR
     rw [List.drop_eq_getElem_cons hi, List.all_cons]
     cases isLabelL parts[i].data.toList <;> simp
    rw [hd]
    by_cases h : isLabelL parts[i].data.toList = true
    · simp only [if_pos h]
      exact ih
    · simp only [if_neg h]
      exact Ev.now _
theorem splitL_len (c : UInt8) (l : List UInt8) : (splitL c l).length ≤ l.length + 1 := by
 induction l with
 | nil => simp [splitL]
 | cons x xs ih =>
  unfold splitL
  split
  · simp; omega
  · split
    · simp
    · rename_i e
      rw [e] at ih
      simp at ih ⊢
      omega
theorem splitL_part (c : UInt8) (l : List UInt8) : ∀ p ∈ splitL c l, p.length ≤ l.length := by
 induction l with
 | nil => simp [splitL]
 | cons x xs ih =>
  unfold splitL
  split
  · intro p hp
    rcases List.mem_cons.1 hp with rfl | hp
    · simp
    · have := ih p hp; simp; omega
  · split
    · simp
    · rename_i e
      rw [e] at ih
      intro p hp
      rcases List.mem_cons.1 hp with rfl | hp
      · have := ih _ List.mem_cons_self; simp; omega
      · have := ih p (List.mem_cons_of_mem _ hp); simp; omega
theorem labels_ev (s : ByteArray) (hs : s.size < 549755813888) : ∃ r, Ev (fun k => spec_l1Labels.f k s) r ∧ r.2 = goodL s.data.toList ∧ (r.2 = true → r.1 = (labelsL s.data.toList).map mkB) := by
 by_cases h : s.data.toList = []
 · refine ⟨([], true), ?_, ?_, ?_⟩
   · refine Ev.congr (fun k => ?_) (Ev.now _)
     unfold spec_l1Labels.f
     rw [if_pos (by rw [Lib.toList_data]; exact h)]
   · rw [h]; decide
   · rw [h]; intro _; rfl
 · refine ⟨labsR s ((splitL 46 s.data.toList).map mkB) 0, ?_, ?_, ?_⟩
   · refine Ev.congr (f := fun k => (spec_l1Split.f k s 46).bind fun t => spec_l1Labels.l0 k s t t (t.length : Int) 0) (fun k => ?_) (Ev.bind (split_ev s (by omega)) ?_)
     · show spec_l1Labels.f k s = _
       unfold spec_l1Labels.f
       rw [if_neg (by rw [Lib.toList_data]; exact h)]
     · have hlen : ((splitL 46 s.data.toList).map mkB).length ≤ s.size + 1 := by rw [List.length_map, size_len]; exact splitL_len _ _
       refine labels_loop s _ ?_ (by omega) _ 0 (Nat.zero_add _)
       intro p hp
       obtain ⟨q, hq, rfl⟩ := List.mem_map.1 hp
       have := splitL_part 46 _ q hq
       rw [mkB_size]
       rw [← size_len] at this
       omega
   all_goals
    unfold labsR
    try unfold goodL
    rw [show labelsL s.data.toList = splitL 46 s.data.toList by unfold labelsL; rw [if_neg h]]
    simp only [List.drop_zero, List.all_map, Function.comp_def, mkB_data, List.length_map, ← size_len]
    by_cases h1 : (splitL 46 s.data.toList).all isLabelL = true
    · simp only [show (splitL 46 s.data.toList).all (fun p => isLabelL p) = true from h1]
      by_cases h2 : s.size ≤ 60
      · simp [h1, h2]
      · simp [h1, h2]
    · simp only [show (splitL 46 s.data.toList).all (fun p => isLabelL p) = false from Bool.eq_false_iff.mpr h1]
      simp [h1]
theorem good_ev (s : ByteArray) (hs : s.size < 549755813888) : ∃ r, Ev (fun k => spec_l1Labels.f k s) r ∧ r.2 = goodL s.data.toList := by
 obtain ⟨r, h1, h2, _⟩ := labels_ev s hs
 exact ⟨r, h1, h2⟩
end Go.Proofs.YtiegkjimpclmaaaGreatDoor.Pure
namespace Go.Proofs.YtiegkjimpclmaaaGreatDoor.P
attribute [local go_sem] max2_int min2_int max_two min_two max_three min_three max_four min_four
def spec_GoodRecord.f (k : Nat) (a0_0 : ByteArray) (a0_1 : Int) (a0_2 : Int) (a0_3 : ByteArray) : Option (Bool) := (spec_l3Bytes.f k a0_1 a0_3).bind fun bt292 => (if bt292.2 = true then ((spec_GoodName.f k a0_0).bind fun t294 => (if t294 = true then ((spec_l1In.f a0_2 0 100000).bind fun t295 => (some t295)) else (some false))) else (some false))
theorem spec_GoodRecord.calls (k : Nat) (a0_0 : ByteArray) (a0_1 : Int) (a0_2 : Int) (a0_3 : ByteArray) (r : Bool) (w : World) (h : spec_GoodRecord.f k a0_0 a0_1 a0_2 a0_3 = some r) :
 Calls Tryz.prog 61 #[.agg #[.string a0_0, .int .i64 a0_1, .int .i64 a0_2, .string a0_3]] w fun e w' => e = .returned (.bool r) ∧ Below w.heap.size w w' := by
 have hu45 := Tryz.underlying45
 have HB := a0_ (Below.refl w.heap.size w)
 have H := h
 clear h
 unfold spec_GoodRecord.f at H
 obtain ⟨⟨t292, t293⟩, A2, H⟩ := ob_ H
 by_cases c3 : t293 = true
 case neg =>
  replace c3 := Bool.eq_false_iff.mpr c3
  subst c3
  rw [if_neg ff_] at H
  obtain rfl := Option.some.inj H
  go_enter Tryz.func61, Tryz.ntmps61
  go_wp2_with (first | ((with_reducible refine gate_dst (N := 1) rfl ?_); refine boxS_ 1 #[.string a0_0, .int .i64 a0_1, .int .i64 a0_2, .string a0_3] 45 (fun gb291 hg w18 hbox hb => ?_); have BK291 := a0_ (hbox); have GW291 := a0_ (gw_ hg : w.heap.size ≤ gb291); replace HB := a0_ (below_step bq0_ hb); have GE291 := GW291; clear hb hbox hg; obtain ⟨_, _, _, _, _, _, _, _⟩ := bk4_ BK291.out) | ((with_reducible refine gt_ 55 rfl ?_); refine gs_ 10 Tryz.func55 #[.int .i64 a0_1, .string a0_3] ?_; (with_reducible refine (spec_l3Bytes.calls k a0_1 a0_3 t292 false _ A2.out).mono ?_); rintro e w20 ⟨rfl, hb⟩; refine ⟨_, rfl, ?_⟩; replace BK291 := a0_ (bkB_ BK291 hb); replace HB := a0_ (below_step bq1_ hb); clear hb))
  go_ret
  exact ⟨rr_, bq1_⟩
 subst c3
 rw [if_pos rfl] at H
 obtain ⟨t294, A4, H⟩ := ob_ H
 by_cases c5 : t294 = true
 case neg =>
  replace c5 := Bool.eq_false_iff.mpr c5
  subst c5
  rw [if_neg ff_] at H
  obtain rfl := Option.some.inj H
  go_enter Tryz.func61, Tryz.ntmps61
  go_wp2_with (first | ((with_reducible refine gate_dst (N := 1) rfl ?_); refine boxS_ 1 #[.string a0_0, .int .i64 a0_1, .int .i64 a0_2, .string a0_3] 45 (fun gb291 hg w13 hbox hb => ?_); have BK291 := a0_ (hbox); have GW291 := a0_ (gw_ hg : w.heap.size ≤ gb291); replace HB := a0_ (below_step bq0_ hb); have GE291 := GW291; clear hb hbox hg; obtain ⟨_, _, _, _, _, _, _, _⟩ := bk4_ BK291.out) | ((with_reducible refine gt_ 55 rfl ?_); refine gs_ 10 Tryz.func55 #[.int .i64 a0_1, .string a0_3] ?_; (with_reducible refine (spec_l3Bytes.calls k a0_1 a0_3 t292 true _ A2.out).mono ?_); rintro e w15 ⟨rfl, hb⟩; refine ⟨_, rfl, ?_⟩; replace BK291 := a0_ (bkB_ BK291 hb); replace HB := a0_ (below_step bq1_ hb); clear hb; obtain ⟨_, _, _, _, _, _, _, _⟩ := bk4_ BK291.out) | (go_at_call 127; (with_reducible refine (spec_GoodName.calls k a0_0 false _ A4.out).mono ?_); rintro e w17 ⟨rfl, hb⟩; replace BK291 := a0_ (bkB_ BK291 hb); replace HB := a0_ (below_step bq1_ hb); clear hb))
  go_ret
  exact ⟨rr_, bq1_⟩
 subst c5
 rw [if_pos rfl] at H
 obtain ⟨t295, A6, H⟩ := ob_ H
 obtain rfl := Option.some.inj H
 go_enter Tryz.func61, Tryz.ntmps61
 go_wp2_with (first | ((with_reducible refine gate_dst (N := 1) rfl ?_); refine boxS_ 1 #[.string a0_0, .int .i64 a0_1, .int .i64 a0_2, .string a0_3] 45 (fun gb291 hg w7 hbox hb => ?_); have BK291 := a0_ (hbox); have GW291 := a0_ (gw_ hg : w.heap.size ≤ gb291); replace HB := a0_ (below_step bq0_ hb); have GE291 := GW291; clear hb hbox hg; obtain ⟨_, _, _, _, _, _, _, _⟩ := bk4_ BK291.out) | ((with_reducible refine gt_ 55 rfl ?_); refine gs_ 10 Tryz.func55 #[.int .i64 a0_1, .string a0_3] ?_; (with_reducible refine (spec_l3Bytes.calls k a0_1 a0_3 t292 true _ A2.out).mono ?_); rintro e w9 ⟨rfl, hb⟩; refine ⟨_, rfl, ?_⟩; replace BK291 := a0_ (bkB_ BK291 hb); replace HB := a0_ (below_step bq1_ hb); clear hb; obtain ⟨_, _, _, _, _, _, _, _⟩ := bk4_ BK291.out) | (go_at_call 127; (with_reducible refine (spec_GoodName.calls k a0_0 true _ A4.out).mono ?_); rintro e w11 ⟨rfl, hb⟩; replace BK291 := a0_ (bkB_ BK291 hb); replace HB := a0_ (below_step bq1_ hb); clear hb; obtain ⟨_, _, _, _, _, _, _, _⟩ := bk4_ BK291.out) | (go_at_call 102; (with_reducible refine (spec_l1In.calls a0_2 0 100000 t295 _ A6.out).mono ?_); rintro e w' ⟨rfl, ⟨nd, rfl⟩⟩))
 go_ret
 exact ⟨rr_, bq1_⟩
end Go.Proofs.YtiegkjimpclmaaaGreatDoor.P
namespace Go.Proofs.YtiegkjimpclmaaaGreatDoor.P
attribute [local go_sem] max2_int min2_int max_two min_two max_three min_three max_four min_four
attribute [local go_sem] gtr_less
end Go.Proofs.YtiegkjimpclmaaaGreatDoor.P
namespace Go.Proofs.YtiegkjimpclmaaaGreatDoor.P
def badD : ByteArray × Bool := ((⟨#[]⟩ : ByteArray), false)
def impl_DataBytes.l0 : Nat → List ByteArray → ByteArray → Int → Option (ByteArray × Bool)
 | 0, _, _, _ => none
 | k + 1, parts, out, i => if i < (parts.length : Int) then (if 0 ≤ i then ((impl_numberIn.f (rdOf ByteArray.empty parts i) 255).bind fun b => (if b.2 = true then (if (parts.length : Int) = 4 then ((impl_big.f k b.1 1).bind fun t => (if out.size + t.size ≤ 9223372036854775807 then impl_DataBytes.l0 k parts (out ++ t) (wrap64 (i + 1)) else none)) else some badD) else some badD)) else none) else some (out, true)
def dataTxt (k : Nat) (data : ByteArray) : Option (ByteArray × Bool) := if (data.size : Int) > 30 then some badD else (if (bytesOf data).any (fun c => decide (c < 32) || decide (c > 126)) = true then some badD else ((impl_big.f k (data.size : Int) 1).bind fun t => (if t.size + data.size ≤ 9223372036854775807 then some (t ++ data, true) else none)))
def dataMx (k : Nat) (data : ByteArray) : Option (ByteArray × Bool) := (strings_Cut.f data (⟨#[32]⟩ : ByteArray)).bind fun c => ((impl_numberIn.f c.1 65535).bind fun b => (if b.2 = true then ((impl_isTarget.f c.2.1).bind fun t => (if t = true then ((impl_big.f k b.1 2).bind fun g => ((impl_labelBytes.f k c.2.1).bind fun lb => (if g.size + lb.size ≤ 9223372036854775807 then (if g.size + lb.size + 1 ≤ 9223372036854775807 then some ((g ++ lb) ++ (⟨#[0]⟩ : ByteArray), true) else none) else none))) else some badD)) else some badD))
def dataNs (k : Nat) (data : ByteArray) : Option (ByteArray × Bool) := (impl_isTarget.f data).bind fun t => (if t = true then ((impl_labelBytes.f k data).bind fun lb => (if lb.size + 1 ≤ 9223372036854775807 then some (lb ++ (⟨#[0]⟩ : ByteArray), true) else none)) else some badD)
def dataSoa (k : Nat) (data : ByteArray) : Option (ByteArray × Bool) := (impl_numberIn.f data 4294967295).bind fun b => (if b.2 = true then ((impl_big.f k b.1 4).bind fun t => some (t, true)) else some badD)
def impl_DataBytes.f (k : Nat) (kind : Int) (data : ByteArray) : Option (ByteArray × Bool) :=
 if kind = 1 then ((strings_Split.f data (⟨#[46]⟩ : ByteArray)).bind fun parts => impl_DataBytes.l0 k parts (⟨#[]⟩ : ByteArray) 0)
 else (if kind = 2 ∨ kind = 5 then dataNs k data else (if kind = 6 then dataSoa k data else (if kind = 15 then dataMx k data else (if kind = 16 then dataTxt k data else some badD))))
set_option maxHeartbeats 4000000 in
theorem data_ns (k : Nat) (kind : Int) (hk : kind = 2 ∨ kind = 5) (a1 : ByteArray) (r1 : ByteArray) (r2 : Bool) (w : World) (h : dataNs k a1 = some (r1, r2)) (hv : Vars w) :
 Calls Tryz.prog 31 #[.int .i64 kind, .string a1] w fun e w' => e = .returned (.tuple #[.string r1, .bool r2]) ∧ Below w.heap.size w w' := by
 unfold dataNs at h
 obtain ⟨t, ht, h⟩ := Option.bind_eq_some_iff.mp h
 have tc := fun W => impl_isTarget.calls a1 t W ht
 have hk1 : (kind == 1) = false := by rcases hk with rfl | rfl <;> rfl
 have hk2 : kind = 2 → (kind == 2) = true := fun e => by rw [e]; rfl
 cases t with
 | false =>
  obtain ⟨rfl, rfl⟩ := Prod.mk.inj (Option.some.inj h)
  clear h ht
  rcases hk with rfl | rfl
  · go_enter Tryz.func31, Tryz.ntmps31
    go_wp2_with (go_at_call 90; refine (tc _).mono ?_; rintro e w1 ⟨rfl, hb⟩)
    go_ret2
    exact ⟨rfl, hb⟩
  · go_enter Tryz.func31, Tryz.ntmps31
    go_wp2_with (go_at_call 90; refine (tc _).mono ?_; rintro e w1 ⟨rfl, hb⟩)
    go_ret2
    exact ⟨rfl, hb⟩
 | true =>
  rw [if_pos rfl] at h
  obtain ⟨lb, hlb, h⟩ := Option.bind_eq_some_iff.mp h
  have lc := fun W => impl_labelBytes.calls k a1 lb W hlb
  by_cases hs : lb.size + 1 ≤ 9223372036854775807
  · rw [if_pos hs] at h
    obtain ⟨rfl, rfl⟩ := Prod.mk.inj (Option.some.inj h)
    have hsa := eq_true hs
    have hsc : (9223372036854775807 < lb.size + 1) = False := eq_false (by omega)
    clear h ht hlb
    rcases hk with rfl | rfl
    · go_enter Tryz.func31, Tryz.ntmps31
      go_wp2_with (first | (go_at_call 90; refine (tc _).mono ?_; rintro e w1 ⟨rfl, hb⟩) | (go_at_call 91; refine (lc _).mono ?_; rintro e w2 ⟨rfl, hb2⟩; have hb3 := below_then hb hb.size hb2))
      go_ret2
      exact ⟨rfl, hb3⟩
    · go_enter Tryz.func31, Tryz.ntmps31
      go_wp2_with (first | (go_at_call 90; refine (tc _).mono ?_; rintro e w1 ⟨rfl, hb⟩) | (go_at_call 91; refine (lc _).mono ?_; rintro e w2 ⟨rfl, hb2⟩; have hb3 := below_then hb hb.size hb2))
      go_ret2
      exact ⟨rfl, hb3⟩
  · rw [if_neg hs] at h; cases h
set_option maxHeartbeats 4000000 in
theorem data_soa (k : Nat) (a1 : ByteArray) (r1 : ByteArray) (r2 : Bool) (w : World) (h : dataSoa k a1 = some (r1, r2)) (hv : Vars w) :
 Calls Tryz.prog 31 #[.int .i64 6, .string a1] w fun e w' => e = .returned (.tuple #[.string r1, .bool r2]) ∧ Below w.heap.size w w' := by
 unfold dataSoa at h
 obtain ⟨⟨b1, b2⟩, hb0, h⟩ := Option.bind_eq_some_iff.mp h
 replace h : (if b2 = true then ((impl_big.f k b1 4).bind fun t => some (t, true)) else some badD) = some (r1, r2) := h
 have nc := fun W (hbW : Below w.heap.size w W) => impl_numberIn.calls a1 4294967295 b1 b2 W hb0 (Vars.below hv hbW)
 clear hv
 cases b2 with
 | false =>
  obtain ⟨rfl, rfl⟩ := Prod.mk.inj (Option.some.inj h)
  clear h
  go_enter Tryz.func31, Tryz.ntmps31
  go_wp2_with (go_at_call 88; refine (nc _ (Below.refl _ _)).mono ?_; rintro e w1 ⟨rfl, hb⟩)
  go_ret2
  exact ⟨rfl, hb⟩
 | true =>
  rw [if_pos rfl] at h
  obtain ⟨g, hg, h⟩ := Option.bind_eq_some_iff.mp h
  have gc := fun W => impl_big.calls k b1 4 g W hg
  obtain ⟨rfl, rfl⟩ := Prod.mk.inj (Option.some.inj h)
  clear h
  go_enter Tryz.func31, Tryz.ntmps31
  go_wp2_with (first | (go_at_call 88; refine (nc _ (Below.refl _ _)).mono ?_; rintro e w1 ⟨rfl, hb⟩) | (go_at_call 89; refine (gc _).mono ?_; rintro e w2 ⟨rfl, hb2⟩; have hb3 := below_then hb hb.size hb2))
  go_ret2
  exact ⟨rfl, hb3⟩
set_option maxHeartbeats 4000000 in
theorem data_mx (k : Nat) (a1 : ByteArray) (r1 : ByteArray) (r2 : Bool) (w : World) (h : dataMx k a1 = some (r1, r2)) (hv : Vars w) :
 Calls Tryz.prog 31 #[.int .i64 15, .string a1] w fun e w' => e = .returned (.tuple #[.string r1, .bool r2]) ∧ Below w.heap.size w w' := by
 unfold dataMx at h
 obtain ⟨⟨c1, c2, c3⟩, hc, h⟩ := Option.bind_eq_some_iff.mp h
 obtain ⟨⟨b1, b2⟩, hb0, h⟩ := Option.bind_eq_some_iff.mp h
 replace h : (if b2 = true then ((impl_isTarget.f c2).bind fun t => (if t = true then ((impl_big.f k b1 2).bind fun g => ((impl_labelBytes.f k c2).bind fun lb => (if g.size + lb.size ≤ 9223372036854775807 then (if g.size + lb.size + 1 ≤ 9223372036854775807 then some ((g ++ lb) ++ (⟨#[0]⟩ : ByteArray), true) else none) else none))) else some badD)) else some badD) = some (r1, r2) := h
 have cutc := fun W => strings_Cut.calls a1 (⟨#[32]⟩ : ByteArray) c1 c2 c3 W hc
 have nc := fun W (hbW : Below w.heap.size w W) => impl_numberIn.calls c1 65535 b1 b2 W hb0 (Vars.below hv hbW)
 clear hv
 cases b2 with
 | false =>
  obtain ⟨rfl, rfl⟩ := Prod.mk.inj (Option.some.inj h)
  clear h
  go_enter Tryz.func31, Tryz.ntmps31
  go_wp2_with (first | (go_at_call 92; refine (cutc _).mono ?_; rintro e w0 ⟨rfl, nd, rfl⟩; have hb0' := pw_below_drewN (Below.refl w.heap.size w) nd) | (go_at_call 88; refine (nc _ hb0').mono ?_; rintro e w1 ⟨rfl, hb⟩; have hb1 := below_then hb0' hb0'.size hb))
  go_ret2
  exact ⟨rfl, hb1⟩
 | true =>
  rw [if_pos rfl] at h
  obtain ⟨t, ht, h⟩ := Option.bind_eq_some_iff.mp h
  have tc := fun W => impl_isTarget.calls c2 t W ht
  cases t with
  | false =>
   obtain ⟨rfl, rfl⟩ := Prod.mk.inj (Option.some.inj h)
   clear h
   go_enter Tryz.func31, Tryz.ntmps31
   go_wp2_with (first | (go_at_call 92; refine (cutc _).mono ?_; rintro e w0 ⟨rfl, nd, rfl⟩; have hb0' := pw_below_drewN (Below.refl w.heap.size w) nd) | (go_at_call 88; refine (nc _ hb0').mono ?_; rintro e w1 ⟨rfl, hb⟩; have hb1 := below_then hb0' hb0'.size hb) | (go_at_call 90; refine (tc _).mono ?_; rintro e w2 ⟨rfl, hbt⟩; have hb2 := below_then hb1 hb1.size hbt))
   go_ret2
   exact ⟨rfl, hb2⟩
  | true =>
   rw [if_pos rfl] at h
   obtain ⟨g, hg, h⟩ := Option.bind_eq_some_iff.mp h
   obtain ⟨lb, hlb, h⟩ := Option.bind_eq_some_iff.mp h
   have gc := fun W => impl_big.calls k b1 2 g W hg
   have lc := fun W => impl_labelBytes.calls k c2 lb W hlb
   by_cases hs : g.size + lb.size ≤ 9223372036854775807
   · rw [if_pos hs] at h
     by_cases hs2 : g.size + lb.size + 1 ≤ 9223372036854775807
     · rw [if_pos hs2] at h
       obtain ⟨rfl, rfl⟩ := Prod.mk.inj (Option.some.inj h)
       have hsa := eq_true hs
       have hsc : (9223372036854775807 < g.size + lb.size) = False := eq_false (by omega)
       have hsa2 := eq_true hs2
       have hsc2 : (9223372036854775807 < g.size + lb.size + 1) = False := eq_false (by omega)
       clear h
       go_enter Tryz.func31, Tryz.ntmps31
       go_wp2_with (first | (go_at_call 92; refine (cutc _).mono ?_; rintro e w0 ⟨rfl, nd, rfl⟩; have hb0' := pw_below_drewN (Below.refl w.heap.size w) nd) | (go_at_call 88; refine (nc _ hb0').mono ?_; rintro e w1 ⟨rfl, hb⟩; have hb1 := below_then hb0' hb0'.size hb) | (go_at_call 90; refine (tc _).mono ?_; rintro e w2 ⟨rfl, hbt⟩; have hb2 := below_then hb1 hb1.size hbt) | (go_at_call 89; refine (gc _).mono ?_; rintro e w3 ⟨rfl, hbg⟩; have hb3 := below_then hb2 hb2.size hbg) | (go_at_call 91; refine (lc _).mono ?_; rintro e w4 ⟨rfl, hbl⟩; have hb4 := below_then hb3 hb3.size hbl))
       go_ret2
       exact ⟨rfl, hb4⟩
     · rw [if_neg hs2] at h; cases h
   · rw [if_neg hs] at h; cases h
set_option maxHeartbeats 4000000 in
theorem data_other (kind : Int) (h1 : kind ≠ 1) (h2 : kind ≠ 2) (h5 : kind ≠ 5) (h6 : kind ≠ 6) (h15 : kind ≠ 15) (h16 : kind ≠ 16) (a1 : ByteArray) (w : World) :
 Calls Tryz.prog 31 #[.int .i64 kind, .string a1] w fun e w' => e = .returned (.tuple #[.string (⟨#[]⟩ : ByteArray), .bool false]) ∧ Below w.heap.size w w' := by
 have g1 : (kind == 1) = false := beq_eq_false_iff_ne.mpr h1
 have g2 : (kind == 2) = false := beq_eq_false_iff_ne.mpr h2
 have g5 : (kind == 5) = false := beq_eq_false_iff_ne.mpr h5
 have g6 : (kind == 6) = false := beq_eq_false_iff_ne.mpr h6
 have g15 : (kind == 15) = false := beq_eq_false_iff_ne.mpr h15
 have g16 : (kind == 16) = false := beq_eq_false_iff_ne.mpr h16
 clear h1 h2 h5 h6 h15 h16
 go_enter Tryz.func31, Tryz.ntmps31
 go_wp2
 go_ret2
 exact ⟨rfl, Below.refl _ _⟩
theorem data_pred (xs : List Int) (W : World) : PredB 94 #[] (.int .u8) (fun c => decide (c < 32) || decide (c > 126)) xs W := by
 intro x hx W' hW
 have e : impl_DataBytes_1.f x = some (decide (x < 32) || decide (x > 126)) := by
  unfold impl_DataBytes_1.f
  by_cases h : x < 32
  · rw [if_pos h, decide_eq_true h]; rfl
  · rw [if_neg h, decide_eq_false h]; rfl
 refine (impl_DataBytes_1.calls x _ W' e).mono ?_
 rintro e w' ⟨he, nd, rfl⟩
 exact ⟨he, pw_below_drewN (Below.refl _ _) nd⟩
theorem bytes_len (s : ByteArray) : (bytesOf s).length = s.size := by
 unfold bytesOf
 simp only [List.length_map]
 exact (size_len s).symm
set_option maxHeartbeats 4000000 in
theorem data_txt (k : Nat) (a1 : ByteArray) (r1 : ByteArray) (r2 : Bool) (w : World) (h : dataTxt k a1 = some (r1, r2)) :
 Calls Tryz.prog 31 #[.int .i64 16, .string a1] w fun e w' => e = .returned (.tuple #[.string r1, .bool r2]) ∧ Below w.heap.size w w' := by
 unfold dataTxt at h
 by_cases h30 : (a1.size : Int) > 30
 · rw [if_pos h30] at h
   obtain ⟨rfl, rfl⟩ := Prod.mk.inj (Option.some.inj h)
   have e1 : decide (30 < a1.size) = true := decide_eq_true (by omega)
   have e2 : decide ((30 : Int) < (a1.size : Int)) = true := decide_eq_true (by omega)
   clear h
   go_enter Tryz.func31, Tryz.ntmps31
   go_wp2
   go_ret2
   exact ⟨rfl, Below.refl _ _⟩
 · rw [if_neg h30] at h
   have e1 : decide (30 < a1.size) = false := decide_eq_false (by omega)
   have e2 : decide ((30 : Int) < (a1.size : Int)) = false := decide_eq_false (by omega)
   have eg : ∀ args w, (callFunc 94 args).run Tryz.prog w = .ok (.enter 94 args) w := enters_of Tryz.func94 (by kernel_rfl) rfl
   have cc0 := fun W c => contains_byte (some ⟨W.heap.size, 0, none⟩) c (bytesOf a1) 94 #[] (fun c => decide (c < 32) || decide (c > 126)) (Lib.bytesWorld W 5 a1) (by
    have hr := bytes_reads W 5 a1 (by omega)
    have := Kd.C_of_reads (d := (0 : Int)) (h1 := fun _ => rfl) hr
    rw [show (bytesOf a1).length = a1.size by rw [bytes_len]]
    exact this) eg (data_pred _ _)
   have hlen : (bytesOf a1).length = a1.size := by rw [bytes_len]
   rw [hlen] at cc0
   generalize hany : (bytesOf a1).any (fun c => decide (c < 32) || decide (c > 126)) = b at h cc0
   have e30 : (30 < a1.size) = False := eq_false (by omega)
   have kb := fun W => print_bytes (P := Tryz.prog) 9 43 5 Tryz.underlying9 Tryz.underlying43 Tryz.underlying5 a1 W
   cases b with
   | true =>
    rw [if_pos rfl] at h
    obtain ⟨rfl, rfl⟩ := Prod.mk.inj (Option.some.inj h)
    clear h h30 hlen hany
    go_enter Tryz.func31, Tryz.ntmps31
    go_wp2_with (go_at_call 93; refine (cc0 _ _).mono ?_; rintro e w1 ⟨rfl, hb⟩; have hb1 := below_then (Lib.bytesWorld_below w 5 a1) (Lib.bytesWorld_below w 5 a1).size hb)
    go_ret2
    exact ⟨rfl, hb1⟩
   | false =>
    rw [if_neg (by simp)] at h
    obtain ⟨g, hg, h⟩ := Option.bind_eq_some_iff.mp h
    have gc := fun W => impl_big.calls k (a1.size : Int) 1 g W hg
    by_cases hs : g.size + a1.size ≤ 9223372036854775807
    · rw [if_pos hs] at h
      obtain ⟨rfl, rfl⟩ := Prod.mk.inj (Option.some.inj h)
      have hsa := eq_true hs
      have hsc : (9223372036854775807 < g.size + a1.size) = False := eq_false (by omega)
      clear h h30 hlen hany
      go_enter Tryz.func31, Tryz.ntmps31
      go_wp2_with (first | (go_at_call 93; refine (cc0 _ _).mono ?_; rintro e w1 ⟨rfl, hb⟩; have hb1 := below_then (Lib.bytesWorld_below w 5 a1) (Lib.bytesWorld_below w 5 a1).size hb) | (go_at_call 89; refine (gc _).mono ?_; rintro e w2 ⟨rfl, hbg⟩; have hb2 := below_then hb1 hb1.size hbg))
      go_ret2
      exact ⟨rfl, hb2⟩
    · rw [if_neg hs] at h; cases h
set_option maxHeartbeats 4000000 in
theorem data_a (k : Nat) (a1 : ByteArray) (parts : List ByteArray) (r1 : ByteArray) (r2 : Bool) (w : World) (hp : strings_Split.f a1 (⟨#[46]⟩ : ByteArray) = some parts) (h : impl_DataBytes.l0 k parts (⟨#[]⟩ : ByteArray) 0 = some (r1, r2)) (hv : Vars w) :
 Calls Tryz.prog 31 #[.int .i64 1, .string a1] w fun e w' => e = .returned (.tuple #[.string r1, .bool r2]) ∧ Below w.heap.size w w' := by
 have sc := fun W => strings_Split.calls a1 (⟨#[46]⟩ : ByteArray) parts W hp
 have HV := Aside0.mk hv
 have H' := Aside0.mk h
 clear h hv hp
 go_enter Tryz.func31, Tryz.ntmps31
 go_wp2_with (go_at_call 87; refine (sc _).mono ?_; rintro e w1 ⟨v, rfl, hR, hbw⟩; have HO := Aside0.mk hR; have HB1 := Aside0.mk hbw; clear hR hbw; obtain ⟨A, c, rfl⟩ := Kd.R_slice HO.out)
 go_loopg [6, 26] k (fun kq v6 v26 wr => ∃ (out : ByteArray) (x : Int), v6 = .string out ∧ v26 = .int .i64 x ∧ Aside0 (impl_DataBytes.l0 kq parts out x = some (r1, r2)) ∧ Aside0 (kq ≤ k) ∧ Aside0 (Kd.C Kd.string wr A parts.length parts) ∧ Aside0 (Below w.heap.size w wr))
 case atStart => exact ⟨(⟨#[]⟩ : ByteArray), 0, rfl, rfl, H', ⟨Nat.le_refl _⟩, ⟨(Kd.R_reads' HO.out).2.2⟩, HB1⟩
 case round =>
  obtain ⟨out, x, rfl, rfl, HA, HK1, HC, BW⟩ := hrel
  cases gk with
  | zero => exact absurd HA.out (by simp [impl_DataBytes.l0])
  | succ k1 =>
   have H := HA.out
   clear HA H'
   simp only [impl_DataBytes.l0] at H
   by_cases c1 : x < (parts.length : Int)
   · rw [if_pos c1] at H
     by_cases c2 : 0 ≤ x
     · rw [if_pos c2] at H
       obtain ⟨⟨b1, b2⟩, hb0, H⟩ := Option.bind_eq_some_iff.mp H
       replace H : (if b2 = true then (if (parts.length : Int) = 4 then ((impl_big.f k1 b1 1).bind fun t => (if out.size + t.size ≤ 9223372036854775807 then impl_DataBytes.l0 k1 parts (out ++ t) (wrap64 (x + 1)) else none)) else some badD) else some badD) = some (r1, r2) := H
       have nc := fun W (hbW : Below w.heap.size w W) => impl_numberIn.calls (rdOf ByteArray.empty parts x) 255 b1 b2 W hb0 (Vars.below HV.out hbW)
       have c1b : decide (x < (parts.length : Int)) = true := decide_eq_true c1
       obtain ⟨ad, e0, hx⟩ := Kd.at_string HC.out x c2 c1
       cases e0
       have c1z := eq_true c1
       have c2z := eq_true c2
       generalize rdOf ByteArray.empty parts x = pv at hb0 nc hx
       clear hb0
       have hbw := BW.out
       cases b2 with
       | false =>
        obtain ⟨rfl, rfl⟩ := Prod.mk.inj (Option.some.inj H)
        clear H
        go_wp2_with (go_at_call 88; refine (nc _ hbw).mono ?_; rintro e w2 ⟨rfl, hb2⟩)
        go_ret2
        exact ⟨rfl, below_then BW.out BW.out.size hb2⟩
       | true =>
        rw [if_pos rfl] at H
        by_cases c4 : (parts.length : Int) = 4
        · rw [if_pos c4] at H
          obtain ⟨g, hg, H⟩ := Option.bind_eq_some_iff.mp H
          have gc := fun W => impl_big.calls k1 b1 1 g W hg
          have c4a : ((parts.length : Int) == 4) = true := by rw [c4]; rfl
          have c4b : (parts.length == 4) = true := by rw [show parts.length = 4 by omega]; rfl
          have c4c : ((parts.length : Int) != 4) = false := by rw [c4]; rfl
          by_cases hs : out.size + g.size ≤ 9223372036854775807
          · rw [if_pos hs] at H
            have hsa := eq_true hs
            have hsc : (9223372036854775807 < out.size + g.size) = False := eq_false (by omega)
            have HN := Aside0.mk H
            clear H hg c4 hs
            go_wp2_with (first | (go_at_call 88; refine (nc _ hbw).mono ?_; rintro e w2 ⟨rfl, hb2⟩) | (go_at_call 89; refine (gc _).mono ?_; rintro e w3 ⟨rfl, hb3⟩; have hb4 := below_then hb2 hb2.size hb3))
            go_roundg k1
            case measure => have := HK1.out; omega
            case rel => exact ⟨out ++ g, wrap64 (x + 1), rfl, rfl, HN, ⟨by have := HK1.out; omega⟩, ⟨Kd.C_below HC.out hb4⟩, ⟨below_then BW.out BW.out.size hb4⟩⟩
          · rw [if_neg hs] at H; cases H
        · rw [if_neg c4] at H
          obtain ⟨rfl, rfl⟩ := Prod.mk.inj (Option.some.inj H)
          have c4a : ((parts.length : Int) == 4) = false := beq_eq_false_iff_ne.mpr c4
          have c4b : (parts.length == 4) = false := beq_eq_false_iff_ne.mpr (by omega)
          have c4c : ((parts.length : Int) != 4) = true := by rw [bne, c4a]; rfl
          clear H c4
          go_wp2_with (go_at_call 88; refine (nc _ hbw).mono ?_; rintro e w2 ⟨rfl, hb2⟩)
          go_ret2
          exact ⟨rfl, below_then BW.out BW.out.size hb2⟩
     · rw [if_neg c2] at H; cases H
   · rw [if_neg c1] at H
     have c1b : decide (x < (parts.length : Int)) = false := decide_eq_false c1
     obtain ⟨rfl, rfl⟩ := Prod.mk.inj (Option.some.inj H)
     clear H
     go_wp2
     go_ret2
     exact ⟨rfl, BW.out⟩
theorem impl_DataBytes.calls (k : Nat) (a0 : Int) (a1 : ByteArray) (r1 : ByteArray) (r2 : Bool) (w : World) (h : impl_DataBytes.f k a0 a1 = some (r1, r2))
 (hv : Vars w := by first | assumption | (refine Vars.below (Aside0.out (by assumption)) ?_; repeat (first | (with_reducible first | exact Below.refl _ _ | exact Aside0.out (by assumption) | apply below_alloc | apply pw_below_drewN | apply below_drew1) | exact Aside0.out (by assumption)))) :
 Calls Tryz.prog 31 #[.int .i64 a0, .string a1] w fun e w' => e = .returned (.tuple #[.string r1, .bool r2]) ∧ Below w.heap.size w w' := by
 unfold impl_DataBytes.f at h
 by_cases c1 : a0 = 1
 · rw [if_pos c1] at h
   subst c1
   obtain ⟨parts, hp, h⟩ := Option.bind_eq_some_iff.mp h
   exact data_a k a1 parts r1 r2 w hp h hv
 · rw [if_neg c1] at h
   by_cases c2 : a0 = 2 ∨ a0 = 5
   · rw [if_pos c2] at h
     exact data_ns k a0 c2 a1 r1 r2 w h hv
   · rw [if_neg c2] at h
     by_cases c6 : a0 = 6
     · rw [if_pos c6] at h
       subst c6
       exact data_soa k a1 r1 r2 w h hv
     · rw [if_neg c6] at h
       by_cases c15 : a0 = 15
       · rw [if_pos c15] at h
         subst c15
         exact data_mx k a1 r1 r2 w h hv
       · rw [if_neg c15] at h
         by_cases c16 : a0 = 16
         · rw [if_pos c16] at h
           subst c16
           exact data_txt k a1 r1 r2 w h
         · rw [if_neg c16] at h
           obtain ⟨rfl, rfl⟩ := Prod.mk.inj (Option.some.inj h)
           exact data_other a0 c1 (fun e => c2 (.inl e)) (fun e => c2 (.inr e)) c6 c15 c16 a1 w
theorem impl_withoutLast.view (k : Nat) (A0 : Option Addr) (c0 : Nat) (l0 : List (S45)) (r : List (S45)) (w : World) (hr0 : Kd.C k45 w A0 l0.length l0) (hc0 : l0.length ≤ c0) (h : impl_withoutLast.f k l0 = some r) :
 Calls Tryz.prog 108 #[.slice A0 l0.length c0] w fun e w' => ∃ n : Nat, e = .returned (.slice A0 n c0) ∧ n ≤ l0.length ∧ r = l0.take n ∧ Below w.heap.size w w' := by
 have hu45 := Tryz.underlying45
 have HO0 := a0_ hr0
 have HC0 := a0_ hc0
 have HB := a0_ (Below.refl w.heap.size w)
 clear hr0 hc0
 have H := h
 clear h
 unfold impl_withoutLast.f at H
 have H' := a0_ H
 clear H
 go_enter Tryz.func108, Tryz.ntmps108
 go_wp2
 go_loopg [3] k (fun kq v3 w' => ∃ (x3_1 : Int), v3 = .int .i64 x3_1 ∧ Aside0 (impl_withoutLast.l0 kq l0 x3_1 = some r) ∧ Aside0 (kq ≤ k) ∧ Aside0 (Kd.C k45 w' A0 l0.length l0) ∧ Aside0 (Below w.heap.size w w'))
 case atStart => exact ⟨(wrap64 ((l0.length : Int) - 1)), rs_, H', ⟨Nat.le_refl _⟩, ⟨kD_ HO0.out⟩, ⟨bq0_⟩⟩
 case round =>
  clear H'
  obtain ⟨x3_1, rfl, HA, HK1, HO_0, HB⟩ := hrel
  cases gk with
  | zero => exact absurd HA.out (by simp [impl_withoutLast.l0])
  | succ k1 =>
   have H := HA.out
   clear HA
   simp only [impl_withoutLast.l0] at H
   have HC3 := a0_ H
   clear H
   go_upto_region 2 with (fail)
   go_cut [21] (fun v21 wc => ∃ (kq : Nat) (x21_2 : Bool), v21 = .bool x21_2 ∧ Aside0 (impl_withoutLast.j1 kq l0 x3_1 x21_2 = some r) ∧ Aside0 (kq ≤ k1) ∧ Aside0 (Kd.C k45 wc A0 l0.length l0) ∧ Aside0 (Below w.heap.size w wc))
   case first =>
    have H := HC3.out
    clear HC3
    by_cases c4 : x3_1 > 0
    case neg =>
     rw [if_neg c4] at H
     have c4b0 := decide_eq_false c4
     clear c4
     (first | rw [c4b0] | (simp only [i64_w, i32_w]; rw [c4b0]) | skip)
     have H' := a0_ H
     clear H
     try go_wp2
     replace HO_0 := a0_ (Kd.C_drew HO_0.out)
     replace HB := a0_ (below_drew1 HB.out)
     refine stH_ 15 [] ht_ (fun hHeld => ?_); refine with_tabW impl_withoutLast.tab2 impl_withoutLast.bits2 (fun HT_ HW_ => ?_)
     generalize wr.drew = w13 at HO_0 HB hHeld ⊢
     refine p_ 0 7 ?_
     refine p_ 1 8 ?_
     refine p_ 2 9 ?_
     refine s_ 3 10 ?_
     refine s_ 4 11 ?_
     refine s_ 5 12 ?_
     refine s_ 6 13 ?_
     refine s_ 7 14 ?_
     refine s_ 8 15 ?_
     refine s_ 9 16 ?_
     refine s_ 10 17 ?_
     refine s_ 11 18 ?_
     refine s_ 12 19 ?_
     refine s_ 13 20 ?_
     refine p_ 14 21 ?_
     refine done_ (done_of HT_.out (by kernel_rfl)) ?_
     try go_wp2
     go_meet
     case rel => exact ⟨_, (false), rs_, H', jl_ HK1, ⟨kD_ HO_0.out⟩, ⟨bq0_⟩⟩
    rw [if_pos c4] at H
    have c4b0 := decide_eq_true c4
    clear c4
    (first | rw [c4b0] | (simp only [i64_w, i32_w]; rw [c4b0]) | skip)
    obtain ⟨ji5, hji5⟩ : ∃ j_ : Int, (wrap64 (x3_1 - 1)) = j_ := ⟨_, rfl⟩
    (first | rw [hji5] at H | simp only [hji5] at H)
    have hji5w : (IntKind.i64.wrap (x3_1 - 1)) = ji5 := (i64_w _).trans hji5
    by_cases c6 : 0 ≤ (ji5)
    case neg =>
     rw [if_neg c6] at H
     exact absurd H (by simp)
    rw [if_pos c6] at H
    have c6b0 := decide_eq_true c6
    clear c6
    by_cases c7 : (ji5) < (l0.length : Int)
    case neg =>
     rw [if_neg c7] at H
     exact absurd H (by simp)
    rw [if_pos c7] at H
    have c7b0 := decide_eq_true c7
    clear c7
    by_cases c8 : 0 ≤ x3_1
    case neg =>
     rw [if_neg c8] at H
     exact absurd H (by simp)
    rw [if_pos c8] at H
    have c8b0 := decide_eq_true c8
    clear c8
    by_cases c9 : x3_1 < (l0.length : Int)
    case neg =>
     rw [if_neg c9] at H
     exact absurd H (by simp)
    rw [if_pos c9] at H
    have c9b0 := decide_eq_true c9
    clear c9
    obtain ⟨t1062, A10, H⟩ := ob_ H
    have H' := a0_ H
    clear H
    try go_wp2
    replace HO_0 := a0_ (Kd.C_drew HO_0.out)
    replace HB := a0_ (below_drew1 HB.out)
    have p1060 := t0_ ((ji5))
    have q1060 := tl_ ((ji5)) (l0.length)
    obtain ⟨ad1060, e1060, hx1060_0, hx1060_1, hx1060_2, hx1060_3⟩ := at_T45 HO_0.out (ji5) (of_eq_true p1060) (of_eq_true q1060)
    cases e1060
    have p1061 := t0_ (x3_1)
    have q1061 := tl_ (x3_1) (l0.length)
    obtain ⟨ad1061, e1061, hx1061_0, hx1061_1, hx1061_2, hx1061_3⟩ := at_T45 HO_0.out x3_1 (of_eq_true p1061) (of_eq_true q1061)
    obtain rfl : ad1060 = ad1061 := (by injection e1061)
    refine stH_ 15 [] (c4_ hx1060_0 hx1060_1 hx1060_2 hx1060_3 (e4_ hx1061_0 hx1061_1 hx1061_2 hx1061_3)) (fun hHeld => ?_); refine with_tabW impl_withoutLast.tab2 impl_withoutLast.bits2 (fun HT_ HW_ => ?_)
    generalize wr.drew = w11 at HO_0 HB hx1060_0 hx1060_1 hx1060_2 hx1060_3 hx1061_0 hx1061_1 hx1061_2 hx1061_3 hHeld ⊢
    refine p_ 0 7 ?_
    refine p_ 1 8 ?_
    refine p_ 2 9 ?_
    refine p_ 3 10 ?_
    refine p_ 4 11 ?_
    refine p_ 5 12 ?_
    refine p_ 6 13 ?_
    refine p_ 8 15 ?_
    refine p_ 9 16 ?_
    refine p_ 10 17 ?_
    refine t_ 7 14 ?_
    refine t_ 11 18 ?_
    refine oneS_ 12 (some 19) (fun K hK => ?_)
    refine goes_ Tryz.func65 (by kernel_rfl) rfl #[.agg #[.string ((rd_T45 l0 (ji5)).f0), .int .i64 ((rd_T45 l0 (ji5)).f1), .int .i64 ((rd_T45 l0 (ji5)).f2), .string ((rd_T45 l0 (ji5)).f3)], .agg #[.string ((rd_T45 l0 x3_1).f0), .int .i64 ((rd_T45 l0 x3_1).f1), .int .i64 ((rd_T45 l0 x3_1).f2), .string ((rd_T45 l0 x3_1).f3)]] (by rfl) rfl rfl (by (try simp only [List.map_toArray, List.map_cons, List.map_nil]); first | done | (simp only [hji5]; rfl) | rfl | (simp only [List.length_drop, List.length_take]; rfl)) ?_
    with_reducible refine (impl_compareKeys.calls k1 ((rd_T45 l0 (ji5)).f0) ((rd_T45 l0 (ji5)).f1) ((rd_T45 l0 (ji5)).f2) ((rd_T45 l0 (ji5)).f3) ((rd_T45 l0 x3_1).f0) ((rd_T45 l0 x3_1).f1) ((rd_T45 l0 x3_1).f2) ((rd_T45 l0 x3_1).f3) t1062 _ A10.out).mono ?_
    rintro e w12 ⟨rfl, hb⟩
    have HS0_ := (hb.cell (World.block_lt_of_cell? _ _ (hHeld.1))).trans (hHeld.1)
    have HS1_ := (hb.cell (World.block_lt_of_cell? _ _ (hHeld.2.1))).trans (hHeld.2.1)
    have HS2_ := (hb.cell (World.block_lt_of_cell? _ _ (hHeld.2.2.1))).trans (hHeld.2.2.1)
    have HS3_ := (hb.cell (World.block_lt_of_cell? _ _ (hHeld.2.2.2.1))).trans (hHeld.2.2.2.1)
    have HS4_ := (hb.cell (World.block_lt_of_cell? _ _ (hHeld.2.2.2.2.1))).trans (hHeld.2.2.2.2.1)
    have HS5_ := (hb.cell (World.block_lt_of_cell? _ _ (hHeld.2.2.2.2.2.1))).trans (hHeld.2.2.2.2.2.1)
    have HS6_ := (hb.cell (World.block_lt_of_cell? _ _ (hHeld.2.2.2.2.2.2.1))).trans (hHeld.2.2.2.2.2.2.1)
    have HS7_ := (hb.cell (World.block_lt_of_cell? _ _ (hHeld.2.2.2.2.2.2.2))).trans (hHeld.2.2.2.2.2.2.2)
    refine ⟨_, rfl, ?_⟩
    replace HO_0 := a0_ (Kd.C_below (kD_ HO_0.out) hb)
    replace HB := a0_ (below_step bq0_ hb)
    (try clear hb)
    (try clear hb2)
    (try clear hk)
    (try clear hi)
    refine hK.out _ _ (c1_ HS0_ (c1_ HS1_ (c1_ HS2_ (c1_ HS3_ (c1_ HS4_ (c1_ HS5_ (c1_ HS6_ (e1_ HS7_)))))))).out (fun hHeld => ?_)
    clear hK K
    refine normS_ ?_
    refine p_ 13 20 ?_
    refine p_ 14 21 ?_
    refine done_ (done_of HT_.out (by kernel_rfl)) ?_
    try go_wp2
    go_meet
    case rel => exact ⟨_, ((t1062 == 0)), rs_, H', jl_ HK1, ⟨kD_ HO_0.out⟩, ⟨bq0_⟩⟩
   case rest =>
    clear HC3
    try clear c1
    try clear p2
    try clear p2
    obtain ⟨kq, x21_2, rfl, HA, HJ2, HO_0, HB⟩ := hcut
    cases kq with
    | zero => exact absurd HA.out (by simp [impl_withoutLast.j1])
    | succ kj2 =>
     have H := HA.out
     clear HA
     simp only [impl_withoutLast.j1] at H
     by_cases c14 : x21_2 = true
     case pos =>
      subst c14
      rw [if_pos rfl] at H
      have H' := a0_ H
      clear H
      go_wp2
      go_roundg kj2
      case measure => have := HK1.out; have := HJ2.out; omega
      case rel => exact ⟨(wrap64 (x3_1 - 1)), rs_, H', jm_ HK1 HJ2, ⟨kD_ HO_0.out⟩, ⟨bq0_⟩⟩
     replace c14 := Bool.eq_false_iff.mpr c14
     subst c14
     rw [if_neg ff_] at H
     by_cases c15 : 0 ≤ x3_1
     case neg =>
      rw [if_neg c15] at H
      exact absurd H (by simp)
     rw [if_pos c15] at H
     have c15b0 := eq_true c15
     have c15b1 := decide_eq_true c15
     clear c15
     by_cases c16 : x3_1 ≤ (l0.length : Int)
     case neg =>
      rw [if_neg c16] at H
      exact absurd H (by simp)
     rw [if_pos c16] at H
     have c16b0 := eq_true c16
     have c16b1 := decide_eq_true c16
     clear c16
     obtain ⟨y1063, hy1063⟩ : ∃ y_ : List (S45), y_ = (l0.take (x3_1 : Int).toNat) := ⟨_, rfl⟩
     rw [← hy1063] at H
     have Ny1063 := a0_ hy1063
     clear hy1063
     obtain rfl := Option.some.inj H
     have q17 : (x3_1 : Int) ≤ ((l0.length : Int) : Int) := dec_
     obtain ⟨i017, hi017, _, hsz17, _⟩ := info_parts info45
     have hcut17 := cut_to (P := Tryz.prog) 27 45 .i64 Tryz.underlying27 hi017 A0 l0.length c0 x3_1 (dec_) q17 HC0.out
     have hle : (x3_1 : Int).toNat ≤ l0.length := by omega
     replace q17 := eq_true q17
     go_wp2
     go_ret
     exact ⟨_, rr_, hle, Ny1063.out, bq0_⟩
end Go.Proofs.YtiegkjimpclmaaaGreatDoor.P
namespace Go.Proofs.YtiegkjimpclmaaaGreatDoor.Pure
open Go.Proofs.YtiegkjimpclmaaaGreatDoor.P
theorem specGood_ev (s : ByteArray) (hs : s.size < 549755813888) : Ev (fun k => spec_GoodName.f k s) (goodL s.data.toList) := by
 obtain ⟨r, h1, h2⟩ := good_ev s hs
 refine Ev.congr (f := fun k => (spec_l1Labels.f k s).bind fun bt => some bt.2) (fun k => rfl) (Ev.bind h1 ?_)
 rw [h2]
 exact Ev.now _
theorem good_size {l : List UInt8} (h : goodL l = true) : l.length ≤ 60 := by
 unfold goodL at h
 simp at h
 exact h.1
end Go.Proofs.YtiegkjimpclmaaaGreatDoor.Pure
