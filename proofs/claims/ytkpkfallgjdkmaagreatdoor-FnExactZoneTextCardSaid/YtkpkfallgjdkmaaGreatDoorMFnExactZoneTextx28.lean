/- FnExactZoneText: part 29 of 30 of my texts for this claim, joined; the theorem stands in the last. Conditions: none beyond the statement's. -/
import Derived.Test.YtkpkfallgjdkmaaGreatDoorMFnExactZoneTextx27
import Derived.Test.YtkpkfallgjdkmaaGreatDoorMFnExactZoneTextx21
import Derived.Test.YtkpkfallgjdkmaaGreatDoorMFnExactZoneTextx11
import Derived.Test.YtkpkfallgjdkmaaGreatDoorMFnExactZoneTextx10
import Derived.Test.YtkpkfallgjdkmaaGreatDoorMFnExactZoneTextx3
import Derived.Test.YtkpkfallgjdkmaaGreatDoorMFnExactZoneTextx23
import Derived.Test.YtkpkfallgjdkmaaGreatDoorMFnExactZoneTextx4
namespace Go.Proofs.YtkpkfallgjdkmaaGreatDoor.Pure
open Go.RowKit Go.Proofs.YtkpkfallgjdkmaaGreatDoor.P Go.Proofs.YtkpkfallgjdkmaaGreatDoorW.PrintWords Go.Proofs.YtkpkfallgjdkmaaGreatDoorW.PrintLast Go.Proofs.YtkpkfallgjdkmaaGreatDoorW.PrintMore
set_option linter.unusedVariables false
set_option linter.unusedSimpArgs false
theorem num_it (n : Int) (h0 : 0 ≤ n) (h1 : n < 9223372036854775807) : Ev (fun k => spec_l1Num.f k n) (itB n) := by
 have := num_ev n.toNat n.toNat (Nat.le_refl _) (by omega)
 rwa [show ((n.toNat : Nat) : Int) = n by omega] at this
theorem itoa_it (n : Int) (h0 : 0 ≤ n) (h1 : n < 9223372036854775807) : strconv_Itoa.f n = some (itB n) := by
 unfold strconv_Itoa.f itB Lib.itoa
 rw [if_pos (by omega), if_neg (by omega)]
 rfl
/-- The serial of a counter, as a text. -/
def serT (c : Int) : ByteArray := itB (Int.tmod c 4294967296)
theorem ser_range {c : Int} (h : 0 ≤ c) : 0 ≤ Int.tmod c 4294967296 ∧ Int.tmod c 4294967296 < 9223372036854775807 := by
 rw [Int.tmod_eq_emod_of_nonneg h]
 omega
theorem soa_ev (apex : ByteArray) (c : Int) (L : List ZRec) (h : 0 ≤ c) : Ev (fun k => spec_l6Soa.f k apex c L) (serT c) :=
 Ev.congr (fun k => rfl) (Ev.bind (num_it _ (ser_range h).1 (ser_range h).2) (Ev.now _))
theorem ser_impl (c : Int) (h : 0 ≤ c) : impl_serialText.f c = some (serT c) := by
 unfold impl_serialText.f
 rw [itoa_it _ (ser_range h).1 (ser_range h).2]
 rfl
theorem gz_loop (apex : ByteArray) (c : Int) (L : List ZRec) (hc : 0 ≤ c) (hL : L.length < 1099511627776) : ∀ (m i : Nat), i + m = L.length →
 Ev (fun k => spec_GoodZone.l0 k L (L.length : Int) (i : Int) apex c L) ((L.drop i).all fun r => !decide (r.f1 = 6) || decide (r.f3 = serT c))
 | 0, i, h => by
  rw [List.drop_of_length_le (by omega), List.all_nil]
  refine Ev.step (f := fun _ => some true) (fun k => ?_) (Ev.now _)
  show spec_GoodZone.l0 (k + 1) L (L.length : Int) (i : Int) apex c L = _
  rw [spec_GoodZone.l0, if_neg (by omega)]
 | m + 1, i, h => by
  have hi : i < L.length := by omega
  have ih := gz_loop apex c L hc hL m (i + 1) (by omega)
  have es : ∀ k, spec_GoodZone.l0 (k + 1) L (L.length : Int) (i : Int) apex c L = (if L[i].f1 = 6 then ((spec_l6Soa.f k apex c L).bind fun t750 => (if L[i].f3.toList = t750.toList then (spec_GoodZone.l0 k L (L.length : Int) ((i + 1 : Nat) : Int) apex c L) else (some false))) else (spec_GoodZone.l0 k L (L.length : Int) ((i + 1 : Nat) : Int) apex c L)) := fun k => by
   rw [spec_GoodZone.l0, if_pos (by omega), if_pos (by omega), if_pos (by omega), rdI L i hi, w64n (by omega)]
  rw [List.drop_eq_getElem_cons hi, List.all_cons]
  refine Ev.step es ?_
  by_cases h6 : L[i].f1 = 6
  · rw [decide_eq_true h6, Bool.not_true, Bool.false_or]
    simp only [if_pos h6]
    refine Ev.bind (soa_ev apex c L hc) ?_
    by_cases hs : L[i].f3 = serT c
    · rw [decide_eq_true hs, Bool.true_and]
      exact Ev.congr (fun k => if_pos ((tl_eq _ _).2 hs)) ih
    · rw [decide_eq_false hs, Bool.false_and]
      exact Ev.congr (fun k => if_neg (fun e => hs ((tl_eq _ _).1 e))) (Ev.now _)
  · rw [decide_eq_false h6, Bool.not_false, Bool.true_or, Bool.true_and]
    simp only [if_neg h6]
    exact ih
/-- No rule is broken: then there is one record of a serial, at the apex. -/
theorem soa_one {apex : ByteArray} {L : List ZRec} (h : ruleS apex L = 0) : (atL L apex 6).length = 1 ∧ ∀ r ∈ L, r.f1 = 6 → r.f0 = apex := by
 unfold ruleS at h
 by_cases h1 : (L.any fun r => !belowL (nmL r) apex.data.toList) = true
 · rw [if_pos h1] at h; cases h
 · rw [if_neg h1] at h
   by_cases h2 : soaW apex L ≠ 1
   · rw [if_pos h2] at h; cases h
   · have h3 : soaW apex L = 1 := Decidable.not_not.1 h2
     rw [soa_parts] at h3
     have h4 : (L.filter fun r => decide (r.f1 = 6) && decide (r.f0 ≠ apex)).length = 0 := by omega
     refine ⟨by omega, fun r hr h6 => ?_⟩
     apply Decidable.byContradiction
     intro hne
     have : r ∈ L.filter fun r => decide (r.f1 = 6) && decide (r.f0 ≠ apex) := List.mem_filter.2 ⟨hr, by simp [h6, hne]⟩
     rw [List.length_eq_zero_iff.1 h4] at this
     cases this
theorem soa_all {apex : ByteArray} {L : List ZRec} (h : ruleS apex L = 0) (T : ByteArray) : (L.all fun r => !decide (r.f1 = 6) || decide (r.f3 = T)) = (atL L apex 6).all fun r => decide (r.f3 = T) := by
 have h1 := (soa_one h).2
 rw [Bool.eq_iff_iff, List.all_eq_true, List.all_eq_true]
 unfold atL
 constructor
 · intro hh r hr
   obtain ⟨h2, h3⟩ := List.mem_filter.1 hr
   have h4 : r.f1 = 6 := by simpa using (Bool.and_eq_true_iff.1 h3).2
   have := hh r h2
   rw [decide_eq_true h4, Bool.not_true, Bool.false_or] at this
   exact this
 · intro hh r hr
   by_cases h6 : r.f1 = 6
   · rw [decide_eq_true h6, Bool.not_true, Bool.false_or]
     exact hh r (List.mem_filter.2 ⟨hr, by simp [h6, h1 r hr h6]⟩)
   · rw [decide_eq_false h6, Bool.not_false, Bool.true_or]
/-- A zone is good. -/
noncomputable def zoneB (apex : ByteArray) (c : Int) (L : List ZRec) : Bool := decide (0 ≤ c ∧ c ≤ 1152921504606846976) && (decide (ruleT apex L = 0) && (atL L apex 6).all fun r => decide (r.f3 = serT c))
theorem ruleT_zero {apex : ByteArray} {L : List ZRec} (h : ruleT apex L = 0) : wholeB apex L = true ∧ ruleS apex L = 0 := by
 unfold ruleT at h
 by_cases hw : wholeB apex L = true
 · rw [if_pos hw] at h; exact ⟨hw, h⟩
 · rw [if_neg hw] at h; cases h
theorem zone_both (apex : ByteArray) (c : Int) (L : List ZRec) (ha : apex.size ≤ 1048576) (hL : L.length ≤ 1048576) (hs : ∀ r ∈ L, Small r.f0 ∧ Small r.f3) : Ev (fun k => spec_GoodZone.f k apex c L) (zoneB apex c L) ∧ Ev (fun k => impl_GoodZone.f k apex c L) (zoneB apex c L) := by
 obtain ⟨r1, r2⟩ := rule_both apex L ha hL hs
 unfold zoneB
 constructor
 · refine Ev.congr (f := fun k => if decide (0 ≤ c ∧ c ≤ 1152921504606846976) = true then ((spec_RuleOf.f k apex L).bind fun t747 => (spec_GoodZone.j0 k (t747 != 0) apex c L)) else (spec_GoodZone.j0 k true apex c L)) (fun k => by unfold spec_GoodZone.f; rw [within_spec, Option.bind_some]) ?_
   have jb : Ev (fun k => spec_GoodZone.j0 k true apex c L) false := Ev.step (f := fun _ => some false) (fun k => by rw [spec_GoodZone.j0, if_pos rfl]) (Ev.now _)
   by_cases hc : 0 ≤ c ∧ c ≤ 1152921504606846976
   · simp only [decide_eq_true hc, if_true, Bool.true_and]
     refine Ev.bind r1 ?_
     by_cases h0 : ruleT apex L = 0
     · rw [decide_eq_true h0, Bool.true_and, ← soa_all (ruleT_zero h0).2, show (ruleT apex L != 0) = false from bne_eq_false_iff_eq.mpr h0]
       have := gz_loop apex c L hc.1 (by omega) L.length 0 (by omega)
       rw [List.drop_zero] at this
       exact Ev.step (fun k => by rw [spec_GoodZone.j0, if_neg (by decide)]; rfl) this
     · rw [decide_eq_false h0, Bool.false_and, show (ruleT apex L != 0) = true from bne_iff_ne.mpr h0]
       exact jb
   · simp only [decide_eq_false hc, Bool.false_eq_true, if_false, Bool.false_and]
     exact jb
 · have hcnt : impl_isCounter.f c = some (decide (0 ≤ c ∧ c ≤ 1152921504606846976)) := by
    unfold impl_isCounter.f
    rw [within_eq]
    rfl
   refine Ev.congr (f := fun k => if decide (0 ≤ c ∧ c ≤ 1152921504606846976) = true then ((impl_RuleOf.f k apex L).bind fun t618 => (if t618 = 0 then ((impl_at.f k L apex 6).bind fun t619 => (if 0 < (t619.length : Int) then ((impl_serialText.f c).bind fun t623 => (some (((rd_T72 t619 0).f3).toList == t623.toList))) else (none))) else (some false))) else (some false)) (fun k => by unfold impl_GoodZone.f; rw [hcnt, Option.bind_some]) ?_
   by_cases hc : 0 ≤ c ∧ c ≤ 1152921504606846976
   · simp only [decide_eq_true hc, if_true, Bool.true_and]
     refine Ev.bind r2 ?_
     by_cases h0 : ruleT apex L = 0
     · simp only [if_pos h0, decide_eq_true h0, Bool.true_and]
       have h1 := (soa_one (ruleT_zero h0).2).1
       refine Ev.bind (at_ev apex 6 L hL) ?_
       obtain ⟨x, hx⟩ := List.length_eq_one_iff.1 h1
       rw [hx, ser_impl c hc.1]
       simp only [Option.bind_some, if_pos (show (0 : Int) < (([x] : List ZRec).length : Int) by rw [List.length_singleton]; decide), List.all_cons, List.all_nil, Bool.and_true]
       rw [show rd_T72 [x] 0 = x from rfl]
       have e : (x.f3.toList == (serT c).toList) = decide (x.f3 = serT c) := by
        rw [Bool.eq_iff_iff, beq_iff_eq, decide_eq_true_eq]; exact tl_eq _ _
       rw [e]
       exact Ev.now _
     · simp only [if_neg h0, decide_eq_false h0, Bool.false_and]
       exact Ev.now _
   · simp only [decide_eq_false hc, Bool.false_eq_true, if_false, Bool.false_and]
     exact Ev.now _
/-- What a good zone is, in parts. -/
theorem zone_parts {apex : ByteArray} {c : Int} {L : List ZRec} (h : zoneB apex c L = true) : (0 ≤ c ∧ c ≤ 1152921504606846976) ∧ apexL apex.data.toList = true ∧ L.length ≤ 40 ∧ (∀ r ∈ L, goodRB r = true) ∧ Rise kB L := by
 unfold zoneB at h
 rw [Bool.and_eq_true, Bool.and_eq_true, decide_eq_true_eq, decide_eq_true_eq] at h
 have hw := (ruleT_zero h.2.1).1
 unfold wholeB at hw
 rw [Bool.and_eq_true, Bool.and_eq_true, decide_eq_true_eq] at hw
 obtain ⟨g, ri⟩ := riseB_true L hw.2.2
 exact ⟨h.1, hw.1, by omega, g, ri⟩
theorem szZ_ev (a : ByteArray) (c : Int) (l : List LRec) (ha : a.size ≤ maxLen) (hm : l.length ≤ maxLen) (hw : ∀ y ∈ l, y.f0.size ≤ maxLen ∧ y.f3.size ≤ maxLen) : ∃ t, Ev (fun k => laws_szZone.f k a c l 1048576) t ∧ (0 ≤ t → a.size ≤ 1048576 ∧ l.length ≤ 1048576 ∧ ∀ y ∈ l, Small y.f0 ∧ Small y.f3) := by
 have h2 : wrap64 (1048576 - (a.size : Int)) = 1048576 - (a.size : Int) := by simp only [maxLen] at ha; unfold wrap64; omega
 by_cases hn : 1048576 - (a.size : Int) < 0
 · refine ⟨-1, Ev.congr (f := fun _ => some (-1)) (fun k => ?_) (Ev.now _), fun h => absurd h (by omega)⟩
   unfold laws_szZone.f
   rw [h2, if_pos hn]
 · obtain ⟨t, e, q⟩ := szRS_ev l (1048576 - (a.size : Int)) (by omega) (by omega) hm hw
   have hf : ∀ k, laws_szZone.f k a c l 1048576 = ((laws_szRecordS.f k l (1048576 - (a.size : Int))).bind fun t735 => (if t735 < 0 then (some (-1)) else (some t735))) := fun k => by
    unfold laws_szZone.f
    rw [h2, if_neg hn]
   by_cases ht : t < 0
   · refine ⟨-1, Ev.congr hf (Ev.bind e ?_), fun h => absurd h (by omega)⟩
     simp only [if_pos ht]; exact Ev.now _
   · obtain ⟨q1, q2, q3⟩ := q (by omega)
     refine ⟨t, Ev.congr hf (Ev.bind e ?_), fun h => ⟨by omega, q2, q3⟩⟩
     simp only [if_neg ht]; exact Ev.now _
theorem toZ_ev (a : ByteArray) (c : Int) (l : List LRec) (hl : l.length ≤ 1048576) : Ev (fun k => laws_toZone.f k a c l) (a, c, l.map conv) := Ev.congr (fun k => rfl) (Ev.bind (toRS_ev l hl) (Ev.now _))
theorem eqZ_ev (a : ByteArray) (c : Int) (L : List IRec) (hl : L.length ≤ 1048576) : Ev (fun k => laws_eqZone.f k a c L a c L) true := by
 unfold laws_eqZone.f
 simp only [if_true]
 exact Ev.bind (eqRS_ev L hl) (Ev.now _)
end Go.Proofs.YtkpkfallgjdkmaaGreatDoor.Pure
namespace Go.Proofs.YtkpkfallgjdkmaaGreatDoor.P
open Go.RowKit Go.Proofs.YtkpkfallgjdkmaaGreatDoorW.PrintWords Go.Proofs.YtkpkfallgjdkmaaGreatDoorW.PrintLast Go.Proofs.YtkpkfallgjdkmaaGreatDoorW.PrintMore
attribute [local go_sem] max2_int min2_int max_two min_two max_three min_three max_four min_four
set_option linter.unusedVariables false
set_option linter.unusedSimpArgs false
def laws_FnExactZoneText.j0 : Nat → Bool → ByteArray → Int → List (S71) → ByteArray → Int → List (S72) → Option (Bool)
 | 0, _, _, _, _, _, _, _ => none
 | k + 1, x34, x833000, x833001, x833002, x847000, x847001, x847002 => if x34 = true then (some false) else ((laws_toZone.f k x833000 x833001 x833002).bind fun bt849 => ((laws_eqZone.f k x847000 x847001 x847002 bt849.1 bt849.2.1 bt849.2.2).bind fun t854 => (if t854 = true then (some true) else (some false))))
def laws_FnExactZoneText.f (k : Nat) (a0_0 : ByteArray) (a0_1 : Int) (l0_2 : List (S71)) : Option (Bool) := (laws_szZone.f k a0_0 a0_1 l0_2 1048576).bind fun t833 => (if t833 < 0 then (some true) else ((laws_toZone.f k a0_0 a0_1 l0_2).bind fun bt834 => ((spec_ZoneText.f k bt834.1 bt834.2.1 bt834.2.2).bind fun bt839 => ((laws_toZone.f k a0_0 a0_1 l0_2).bind fun bt841 => ((impl_ZoneText.f k bt841.1 bt841.2.1 bt841.2.2).bind fun bt847 => (if bt847.1.toList = bt839.1.toList then (laws_FnExactZoneText.j0 k (bt847.2 != bt839.2) a0_0 a0_1 l0_2 bt841.1 bt841.2.1 bt841.2.2) else (laws_FnExactZoneText.j0 k true a0_0 a0_1 l0_2 bt841.1 bt841.2.1 bt841.2.2)))))))
set_option maxHeartbeats 8000000 in
set_option maxRecDepth 100000 in
theorem laws_FnExactZoneText.calls (k : Nat) (a0_0 : ByteArray) (a0_1 : Int) (A0_2 : Option Addr) (c0_2 : Nat) (l0_2 : List (S71)) (r : Bool) (w : World) (hr0_2 : Kd.C k71 w A0_2 l0_2.length l0_2) (hc0_2 : l0_2.length ≤ c0_2) (h : laws_FnExactZoneText.f k a0_0 a0_1 l0_2 = some r) (hv_ : Vars w := by exact vv_) :
 Calls Tryz.prog 9 #[.agg #[.string a0_0, .int .i64 a0_1, .slice A0_2 l0_2.length c0_2]] w fun e w' => e = .returned (.bool r) ∧ Below w.heap.size w w' := by
 have HV_ := a0_ hv_
 clear hv_
 have hu51 := Tryz.underlying51
 have hu42 := Tryz.underlying42
 have HR0_2 := a0_ hr0_2
 have HC0_2 := a0_ hc0_2
 clear hr0_2 hc0_2
 have HB := a0_ (Below.refl w.heap.size w)
 have H : ((laws_szZone.f k a0_0 a0_1 l0_2 1048576).bind fun t833 => (if t833 < 0 then (some true) else ((laws_toZone.f k a0_0 a0_1 l0_2).bind fun bt834 => ((spec_ZoneText.f k bt834.1 bt834.2.1 bt834.2.2).bind fun bt839 => ((laws_toZone.f k a0_0 a0_1 l0_2).bind fun bt841 => ((impl_ZoneText.f k bt841.1 bt841.2.1 bt841.2.2).bind fun bt847 => (if bt847.1.toList = bt839.1.toList then (laws_FnExactZoneText.j0 k (bt847.2 != bt839.2) a0_0 a0_1 l0_2 bt841.1 bt841.2.1 bt841.2.2) else (laws_FnExactZoneText.j0 k true a0_0 a0_1 l0_2 bt841.1 bt841.2.1 bt841.2.2)))))))) = some r := h
 clear h
 obtain ⟨t833, A20, H⟩ := Option.bind_eq_some_iff.mp H
 have A2 := a0_ A20
 clear A20
 by_cases c3 : t833 < 0
 case pos =>
  rw [if_pos c3] at H
  have c3b0 := decide_eq_true c3
  clear c3
  obtain rfl := Option.some.inj H
  go_enter Tryz.func9, Tryz.ntmps9
  go_wp2_with (first | ((with_reducible refine gate_dst (N := 1) rfl ?_); refine boxS_ 1 #[.string a0_0, .int .i64 a0_1, .slice A0_2 l0_2.length c0_2] 51 (fun gb832 hg w4 hbox hb => ?_); have n0_ := a0_ (below_step bq0_ hb); have n1_ := a0_ (hbox); have n2_ := a0_ (gw_ hg : w.heap.size ≤ gb832); have n3_ := n2_; clear HB; have HB := n0_; have BK832 := n1_; have GW832 := n2_; have GE832 := n3_; clear n0_ n1_ n2_ n3_; clear hb hbox hg; obtain ⟨z5_0, z5_1, z5_2, q5_0, q5_1, q5_2⟩ := bk3_ BK832.out) | ((with_reducible refine gate_callee (f := 32) rfl ?_); refine goesL_ (some 11) rfl rfl Tryz.func32 (by kernel_rfl) rfl #[.agg #[.string a0_0, .int .i64 a0_1, .slice A0_2 l0_2.length c0_2], .int .i64 1048576] rfl argsS_ ?_; (with_reducible refine (laws_szZone.calls k a0_0 a0_1 _ _ l0_2 1048576 t833 _ ?side1 ?side2 A2.out).mono ?_); (case side1 => exact kC_ HR0_2.out HB.out); (case side2 => exact HC0_2.out); rintro e w6 ⟨rfl, hb⟩; refine ⟨_, rfl, ?_⟩; replace BK832 := a0_ (bkB_ BK832 hb); replace HB := a0_ (below_step bq1_ hb); (try clear hb); (try clear hb2); (try clear hk); (try clear hi)))
  go_ret
  exact ⟨rr_, bq1_⟩
 rw [if_neg c3] at H
 have c3b0 := decide_eq_false c3
 clear c3
 obtain ⟨⟨t834, t835, t836⟩, A70, H⟩ := Option.bind_eq_some_iff.mp H
 have A7 := a0_ A70
 clear A70
 obtain ⟨⟨t839, t840⟩, A80, H⟩ := Option.bind_eq_some_iff.mp H
 have A8 := a0_ A80
 clear A80
 obtain ⟨⟨t841, t842, t843⟩, A90, H⟩ := Option.bind_eq_some_iff.mp H
 have A9 := a0_ A90
 clear A90
 obtain ⟨⟨t847, t848⟩, A100, H⟩ := Option.bind_eq_some_iff.mp H
 have A10 := a0_ A100
 clear A100
 have HC11 := a0_ H
 clear H
 go_enter Tryz.func9, Tryz.ntmps9
 go_upto_region 8 with (first | ((with_reducible refine gate_dst (N := 1) rfl ?_); refine boxS_ 1 #[.string a0_0, .int .i64 a0_1, .slice A0_2 l0_2.length c0_2] 51 (fun gb832 hg w12 hbox hb => ?_); have n0_ := a0_ (below_step bq0_ hb); have n1_ := a0_ (hbox); have n2_ := a0_ (gw_ hg : w.heap.size ≤ gb832); have n3_ := n2_; clear HB; have HB := n0_; have BK832 := n1_; have GW832 := n2_; have GE832 := n3_; clear n0_ n1_ n2_ n3_; clear hb hbox hg; obtain ⟨z13_0, z13_1, z13_2, q13_0, q13_1, q13_2⟩ := bk3_ BK832.out) | ((with_reducible refine gate_callee (f := 32) rfl ?_); refine goesL_ (some 11) rfl rfl Tryz.func32 (by kernel_rfl) rfl #[.agg #[.string a0_0, .int .i64 a0_1, .slice A0_2 l0_2.length c0_2], .int .i64 1048576] rfl argsS_ ?_; (with_reducible refine (laws_szZone.calls k a0_0 a0_1 _ _ l0_2 1048576 t833 _ ?side1 ?side2 A2.out).mono ?_); (case side1 => exact kC_ HR0_2.out HB.out); (case side2 => exact HC0_2.out); rintro e w14 ⟨rfl, hb⟩; refine ⟨_, rfl, ?_⟩; replace BK832 := a0_ (bkB_ BK832 hb); replace HB := a0_ (below_step bq1_ hb); (try clear hb); (try clear hb2); (try clear hk); (try clear hi); obtain ⟨z15_0, z15_1, z15_2, q15_0, q15_1, q15_2⟩ := bk3_ BK832.out) | ((with_reducible refine gate_callee (f := 34) rfl ?_); refine goesL_ (some 16) rfl rfl Tryz.func34 (by kernel_rfl) rfl #[.agg #[.string a0_0, .int .i64 a0_1, .slice A0_2 l0_2.length c0_2]] rfl argsS_ ?_; (with_reducible refine (laws_toZone.calls k a0_0 a0_1 _ _ l0_2 t834 t835 t836 _ ?side1 ?side2 A7.out).mono ?_); (case side1 => exact kC_ HR0_2.out HB.out); (case side2 => exact HC0_2.out); rintro e w16 ⟨v837, rfl, ho0, hb⟩; refine ⟨_, rfl, ?_⟩; have HO838 := a0_ (Kd.R_lower ho0 (below_size bq1_)); replace BK832 := a0_ (bkB_ BK832 hb); replace HB := a0_ (below_step bq1_ hb); (try clear hb); (try clear hb2); (try clear hk); (try clear hi); (try clear ho0); obtain ⟨Ao17, co17, eo17⟩ := Kd.R_slice HO838.out; subst eo17) | ((with_reducible refine gate_callee (f := 38) rfl ?_); refine goesL_ (some 17) rfl rfl Tryz.func38 (by kernel_rfl) rfl #[.agg #[.string t834, .int .i64 t835, .slice Ao17 t836.length co17]] rfl argsS_ ?_; (with_reducible refine (spec_ZoneText.calls k t834 t835 _ _ t836 t839 t840 _ ?side1 ?side2 A8.out).mono ?_); (case side1 => exact kD_ (Kd.R_reads' HO838.out).2.2); (case side2 => exact (Kd.R_reads' HO838.out).2.1); rintro e w18 ⟨rfl, hb⟩; refine ⟨_, rfl, ?_⟩; replace HO838 := a0_ (Kd.R_below (kR_ HO838.out) hb); replace BK832 := a0_ (bkB_ BK832 hb); replace HB := a0_ (below_step bq1_ hb); (try clear hb); (try clear hb2); (try clear hk); (try clear hi); obtain ⟨z19_0, z19_1, z19_2, q19_0, q19_1, q19_2⟩ := bk3_ BK832.out) | ((with_reducible refine gate_callee (f := 34) rfl ?_); refine goesL_ (some 21) rfl rfl Tryz.func34 (by kernel_rfl) rfl #[.agg #[.string a0_0, .int .i64 a0_1, .slice A0_2 l0_2.length c0_2]] rfl argsS_ ?_; (with_reducible refine (laws_toZone.calls k a0_0 a0_1 _ _ l0_2 t841 t842 t843 _ ?side1 ?side2 A9.out).mono ?_); (case side1 => exact kC_ HR0_2.out HB.out); (case side2 => exact HC0_2.out); rintro e w20 ⟨v844, rfl, ho0, hb⟩; refine ⟨_, rfl, ?_⟩; have n0_ := a0_ (Kd.R_elder' (kR_ HO838.out) (Kd.R_base ho0) hb); have n1_ := a0_ (Kd.R_lower (Kd.R_new' ho0 (Kd.R_lt (kR_ HO838.out))) (below_size bq1_)); have n2_ := a0_ (bkB_ BK832 hb); have n3_ := a0_ (below_step bq1_ hb); clear HO838; clear BK832; clear HB; have HO838 := n0_; have HO845 := n1_; have BK832 := n2_; have HB := n3_; clear n0_ n1_ n2_ n3_; (try clear hb); (try clear hb2); (try clear hk); (try clear hi); (try clear ho0)) | ((with_reducible refine gate_dst (N := 6) rfl ?_); refine boxS_ 6 #[.string (⟨#[]⟩ : ByteArray), .int .i64 0, .slice none 0 0] 42 (fun gb846 hg w21 hbox hb => ?_); have n0_ := a0_ (Kd.R_below (kR_ HO838.out) hb); have n1_ := a0_ (Kd.R_below (kR_ HO845.out) hb); have n2_ := a0_ (bkB_ BK832 hb); have n3_ := a0_ (below_step bq1_ hb); have n4_ := a0_ (hbox); have n5_ := a0_ (gw_ hg (below_size bq1_) : w.heap.size ≤ gb846); have n6_ := n5_; have n7_ := a0_ ((by rw [hg]; exact Nat.ne_of_lt (blk_lt (g := gb832) (o := .cells #[.string a0_0, .int .i64 a0_1, .slice A0_2 l0_2.length c0_2] 51 (0, 0)) (kB_ BK832.out)) : gb832 ≠ gb846)); have n8_ := a0_ ((by rw [hg]; exact Nat.ne_of_gt (blk_lt (g := gb832) (o := .cells #[.string a0_0, .int .i64 a0_1, .slice A0_2 l0_2.length c0_2] 51 (0, 0)) (kB_ BK832.out)) : gb846 ≠ gb832)); clear HO838; clear HO845; clear BK832; clear HB; have HO838 := n0_; have HO845 := n1_; have BK832 := n2_; have HB := n3_; have BK846 := n4_; have GW846 := n5_; have GE846 := n6_; have NB832_846 := n7_; have NB846_832 := n8_; clear n0_ n1_ n2_ n3_ n4_ n5_ n6_ n7_ n8_; clear hb hbox hg; have hnb22 := NB846_832.out; have hnc22 := NB832_846.out; obtain ⟨z23_0, z23_1, z23_2, q23_0, q23_1, q23_2⟩ := bk3_ BK846.out; obtain ⟨Ao24, co24, eo24⟩ := Kd.R_slice HO845.out; subst eo24) | ((with_reducible refine gate_callee (f := 39) rfl ?_); refine goesL_ (some 24) rfl rfl Tryz.func39 (by kernel_rfl) rfl #[.agg #[.string t841, .int .i64 t842, .slice Ao24 t843.length co24]] rfl argsS_ ?_; (with_reducible refine (impl_ZoneText.calls k t841 t842 _ _ t843 t847 t848 _ ?side1 ?side2 A10.out).mono ?_); (case side1 => refine (Kd.R_reads' (e := 72) (base := w.heap.size) (ok := fun k_ => (True ∧ nw_ k_ Ao17 t836.length co17)) (n := t843.length) (c := co24) ?_).2.2; exact (kR_ (farR3_ HO845.out BK846.out))); (case side2 => exact (Kd.R_reads' HO845.out).2.1); rintro e w25 ⟨rfl, hb⟩; refine ⟨_, rfl, ?_⟩; replace HO838 := a0_ (Kd.R_below (kR_ (farR3_ HO838.out BK846.out)) hb); replace HO845 := a0_ (Kd.R_below (kR_ (farR3_ HO845.out BK846.out)) hb); replace BK832 := a0_ (blk_below (g := gb832) (o := .cells #[.string a0_0, .int .i64 a0_1, .slice A0_2 l0_2.length c0_2] 51 (0, 0)) (bfar3_ NB832_846.out BK832.out) hb); replace BK846 := a0_ (blk_below (g := gb846) (o := .cells #[.string t841, .int .i64 t842, .slice Ao24 t843.length co24] 42 (0, 0)) (put3_ BK846.out) hb); replace HB := a0_ (below_step bq1_ hb); (try clear hb); (try clear hb2); (try clear hk); (try clear hi)))
 (try simp only [Act.put, List.setIfInBounds_toArray, List.set_cons_zero, List.set_cons_succ])
 go_cut [34] (fun v34 wc => ∃ (kq : Nat) (x34_10 : Bool), v34 = .bool x34_10 ∧ Aside0 (laws_FnExactZoneText.j0 kq x34_10 a0_0 a0_1 l0_2 t841 t842 t843 = some r) ∧ Aside0 (kq ≤ k) ∧ Aside0 (Kd.R k72 72 wc w.heap.size (fun _ => True) (.slice Ao24 t843.length co24) t843) ∧ Aside0 (wc.heap[gb832]? = some (.cells #[.string a0_0, .int .i64 a0_1, (.slice A0_2 l0_2.length c0_2)] 51 (0, 0))) ∧ Aside0 (wc.heap[gb846]? = some (.cells #[.string t841, .int .i64 t842, (.slice Ao24 t843.length co24)] 42 (0, 0))) ∧ Aside0 (Below w.heap.size w wc))
 case first =>
  have H := HC11.out
  clear HC11
  by_cases c26 : t847.toList = t839.toList
  case neg =>
   rw [if_neg c26] at H
   have c26b0 := beq_eq_false_iff_ne.mpr c26
   have c26b1 := bne_iff_ne.mpr c26
   (first | rw [c26b0] | (simp only [i64_w, i32_w]; rw [c26b0]) | skip)
   have H' := a0_ H
   clear H
   go_wp2
   go_meet
   case rel => exact ⟨_, (true), rs_, H', ⟨by first | omega | exact Nat.le_refl _⟩, ⟨by (with_reducible repeat (first | apply Kd.R_alloc | apply Kd.R_drewN | apply Kd.R_drew)); exact Kd.R_mono HO845.out (fun _ hk => trivial)⟩, ⟨by (with_reducible repeat (first | refine blk_drewN ?_ _ | refine blk_drew ?_ | refine blk_alloc ?_ _)); exact BK832.out⟩, ⟨by (with_reducible repeat (first | refine blk_drewN ?_ _ | refine blk_drew ?_ | refine blk_alloc ?_ _)); exact BK846.out⟩, ⟨bq1_⟩⟩
  rw [if_pos c26] at H
  have c26b0 := beq_iff_eq.mpr c26
  have c26b1 := bne_eq_false_iff_eq.mpr c26
  clear c26
  (first | rw [c26b0] | (simp only [i64_w, i32_w]; rw [c26b0]) | skip)
  have H' := a0_ H
  clear H
  go_wp2
  go_meet
  case rel => exact ⟨_, ((t848 != t840)), rs_, H', ⟨by first | omega | exact Nat.le_refl _⟩, ⟨by (with_reducible repeat (first | apply Kd.R_alloc | apply Kd.R_drewN | apply Kd.R_drew)); exact Kd.R_mono HO845.out (fun _ hk => trivial)⟩, ⟨by (with_reducible repeat (first | refine blk_drewN ?_ _ | refine blk_drew ?_ | refine blk_alloc ?_ _)); exact BK832.out⟩, ⟨by (with_reducible repeat (first | refine blk_drewN ?_ _ | refine blk_drew ?_ | refine blk_alloc ?_ _)); exact BK846.out⟩, ⟨bq1_⟩⟩
 case rest =>
  clear HC11
  try clear c2
  try clear p2
  try clear c3
  try clear c3b0
  try clear c9
  try clear c22
  try clear c26
  try clear c26b0
  try clear c26b1
  try clear z13_0 z13_1 z13_2
  try clear z15_0 z15_1 z15_2
  try clear z19_0 z19_1 z19_2
  try clear z23_0 z23_1 z23_2
  try clear z5_0 z5_1 z5_2
  try clear q13_0 q13_1 q13_2
  try clear q15_0 q15_1 q15_2
  try clear q19_0 q19_1 q19_2
  try clear q23_0 q23_1 q23_2
  try clear q5_0 q5_1 q5_2
  obtain ⟨kq, x34_10, rfl, HA, HJ10, HO_847002, BK832, BK846, HB⟩ := hcut
  cases kq with
  | zero => exact absurd HA.out (by simp [laws_FnExactZoneText.j0])
  | succ kj10 =>
   have H := HA.out
   clear HA
   simp only [laws_FnExactZoneText.j0] at H
   by_cases c27 : x34_10 = true
   case pos =>
    subst c27
    rw [if_pos rfl] at H
    obtain rfl := Option.some.inj H
    go_wp2
    go_ret
    exact ⟨rr_, bq1_⟩
   replace c27 := Bool.eq_false_iff.mpr c27
   subst c27
   rw [if_neg (show ¬ (false = true) by decide)] at H
   obtain ⟨⟨t849, t850, t851⟩, A280, H⟩ := Option.bind_eq_some_iff.mp H
   have A28 := a0_ A280
   clear A280
   obtain ⟨t854, A290, H⟩ := Option.bind_eq_some_iff.mp H
   have A29 := a0_ A290
   clear A290
   by_cases c30 : t854 = true
   case pos =>
    subst c30
    rw [if_pos rfl] at H
    obtain rfl := Option.some.inj H
    try go_wp2
    replace HO_847002 := a0_ (Kd.R_drew HO_847002.out)
    replace BK832 := a0_ (blk_drew BK832.out)
    replace BK846 := a0_ (blk_drew BK846.out)
    replace HB := a0_ (below_drew1 HB.out)
    refine start_ (n := 5) (S := fun w' => w'.cell? ⟨gb846, 0, none⟩ = some (.string t841) ∧ w'.cell? ⟨gb846, 1, none⟩ = some (.int .i64 t842) ∧ w'.cell? ⟨gb846, 2, none⟩ = some (.slice Ao24 t843.length co24) ∧ w'.cell? ⟨gb832, 0, none⟩ = some (.string a0_0) ∧ w'.cell? ⟨gb832, 1, none⟩ = some (.int .i64 a0_1) ∧ w'.cell? ⟨gb832, 2, none⟩ = some (.slice A0_2 l0_2.length c0_2)) (ds := []) #[false, false, false, false, false] (by kernel_rfl) rfl rfl ⟨(blk_cell BK846.out 0).trans rfl, (blk_cell BK846.out 1).trans rfl, (blk_cell BK846.out 2).trans rfl, (blk_cell BK832.out 0).trans rfl, (blk_cell BK832.out 1).trans rfl, (blk_cell BK832.out 2).trans rfl⟩ (fun hHeld => ?_)
    generalize wc.drew = w31 at HO_847002 BK832 BK846 HB hHeld ⊢
    refine take_ (i := 0) (N := some 35) (v := ?_) (a' := ?_) #[true, false, false, false, false] rfl rfl (by kernel_rfl) (fun _ _ _ h => h) (Or.inl ⟨by rfl, ?_⟩) hHeld ?_ ?_
    rotate_left
    · rintro w' ⟨s0, s1, s2, s3, s4, s5⟩
      go_simp
      with_reducible rfl
    rotate_left
    · simp only [Act.put, List.setIfInBounds_toArray, List.set_cons_zero, List.set_cons_succ, i64_w, i32_w]
      rfl
    refine take_ (i := 1) (N := some 36) (v := ?_) (a' := ?_) #[true, true, false, false, false] rfl rfl (by kernel_rfl) (fun _ _ _ h => h) (Or.inl ⟨by rfl, ?_⟩) hHeld ?_ ?_
    rotate_left
    · rintro w' ⟨s0, s1, s2, s3, s4, s5⟩
      go_simp
      with_reducible rfl
    rotate_left
    · simp only [Act.put, List.setIfInBounds_toArray, List.set_cons_zero, List.set_cons_succ, i64_w, i32_w]
      rfl
    refine one_ (i := 2) (N := some 37) #[true, true, true, false, false] rfl rfl (by kernel_rfl) (by decide) (fun K hK => ?_)
    refine goes_ Tryz.func34 (by kernel_rfl) rfl #[.agg #[.string a0_0, .int .i64 a0_1, .slice A0_2 l0_2.length c0_2]] (by rfl) rfl rfl argsS_ ?_
    with_reducible refine (laws_toZone.calls kj10 a0_0 a0_1 _ _ l0_2 t849 t850 t851 _ ?side1 ?side2 A28.out).mono ?_
    (case side1 => exact kC_ HR0_2.out HB.out)
    (case side2 => exact HC0_2.out)
    rintro e w32 ⟨v852, rfl, ho0, hb⟩
    refine ⟨_, rfl, ?_⟩
    have n0_ := a0_ (Kd.R_elder' (kR_ HO_847002.out) (Kd.R_base ho0) hb)
    have n1_ := a0_ (Kd.R_lower (Kd.R_new' ho0 (Kd.R_lt (kR_ HO_847002.out))) (below_size bq1_))
    have n2_ := a0_ (bkB_ BK832 hb)
    have n3_ := a0_ (bkB_ BK846 hb)
    have n4_ := a0_ (below_step bq1_ hb)
    clear HO_847002
    clear BK832
    clear BK846
    clear HB
    have HO_847002 := n0_
    have HO853 := n1_
    have BK832 := n2_
    have BK846 := n3_
    have HB := n4_
    clear n0_ n1_ n2_ n3_ n4_
    (try clear hb)
    (try clear hb2)
    (try clear hk)
    (try clear hi)
    (try clear ho0)
    obtain ⟨Ao33, co33, eo33⟩ := Kd.R_slice HO853.out
    (first | subst eo33 | (injection eo33 with f1_ f2_ f3_; have f4_ := f1_.symm; have f5_ := f3_.symm; clear f1_ f2_ f3_; subst f4_; subst f5_))
    refine hK.out _ _ ⟨(blk_cell BK846.out 0).trans rfl, (blk_cell BK846.out 1).trans rfl, (blk_cell BK846.out 2).trans rfl, (blk_cell BK832.out 0).trans rfl, (blk_cell BK832.out 1).trans rfl, (blk_cell BK832.out 2).trans rfl⟩ (fun hHeld => ?_)
    clear hK K
    refine normS_ ?_
    refine one_ (i := 3) (N := some 38) #[true, true, true, true, false] rfl rfl (by kernel_rfl) (by decide) (fun K hK => ?_)
    refine goes_ Tryz.func27 (by kernel_rfl) rfl #[.agg #[.string t841, .int .i64 t842, .slice Ao24 t843.length co24], .agg #[.string t849, .int .i64 t850, .slice Ao33 t851.length co33]] (by rfl) rfl rfl argsS_ ?_
    with_reducible refine (laws_eqZone.calls kj10 t841 t842 _ _ t843 t849 t850 _ _ t851 true _ ?side1 ?side2 ?side3 ?side4 A29.out).mono ?_
    (case side1 => exact kD_ (Kd.R_reads' HO_847002.out).2.2)
    (case side2 => exact (Kd.R_reads' HO_847002.out).2.1)
    (case side3 => exact kD_ (Kd.R_reads' HO853.out).2.2)
    (case side4 => exact (Kd.R_reads' HO853.out).2.1)
    rintro e w34 ⟨rfl, hb⟩
    refine ⟨_, rfl, ?_⟩
    replace HO_847002 := a0_ (Kd.R_below (kR_ HO_847002.out) hb)
    replace HO853 := a0_ (Kd.R_below (kR_ HO853.out) hb)
    replace BK832 := a0_ (bkB_ BK832 hb)
    replace BK846 := a0_ (bkB_ BK846 hb)
    replace HB := a0_ (below_step bq1_ hb)
    (try clear hb)
    (try clear hb2)
    (try clear hk)
    (try clear hi)
    refine hK.out _ _ ⟨(blk_cell BK846.out 0).trans rfl, (blk_cell BK846.out 1).trans rfl, (blk_cell BK846.out 2).trans rfl, (blk_cell BK832.out 0).trans rfl, (blk_cell BK832.out 1).trans rfl, (blk_cell BK832.out 2).trans rfl⟩ (fun hHeld => ?_)
    clear hK K
    refine normS_ ?_
    refine pure_ (i := 4) (N := some 39) (v := ?_) (a' := ?_) #[true, true, true, true, true] rfl rfl (by kernel_rfl) (fun _ _ _ h => h) (Or.inl ⟨by rfl, ?_⟩) ?_ ?_
    rotate_left
    · intro w'
      go_simp
      with_reducible rfl
    rotate_left
    · simp only [Act.put, List.setIfInBounds_toArray, List.set_cons_zero, List.set_cons_succ, i64_w, i32_w]
      rfl
    refine done_ (by kernel_rfl) ?_
    try go_wp2
    go_ret
    exact ⟨rr_, bq1_⟩
   replace c30 := Bool.eq_false_iff.mpr c30
   subst c30
   rw [if_neg (show ¬ (false = true) by decide)] at H
   obtain rfl := Option.some.inj H
   try go_wp2
   replace HO_847002 := a0_ (Kd.R_drew HO_847002.out)
   replace BK832 := a0_ (blk_drew BK832.out)
   replace BK846 := a0_ (blk_drew BK846.out)
   replace HB := a0_ (below_drew1 HB.out)
   refine start_ (n := 5) (S := fun w' => w'.cell? ⟨gb846, 0, none⟩ = some (.string t841) ∧ w'.cell? ⟨gb846, 1, none⟩ = some (.int .i64 t842) ∧ w'.cell? ⟨gb846, 2, none⟩ = some (.slice Ao24 t843.length co24) ∧ w'.cell? ⟨gb832, 0, none⟩ = some (.string a0_0) ∧ w'.cell? ⟨gb832, 1, none⟩ = some (.int .i64 a0_1) ∧ w'.cell? ⟨gb832, 2, none⟩ = some (.slice A0_2 l0_2.length c0_2)) (ds := []) #[false, false, false, false, false] (by kernel_rfl) rfl rfl ⟨(blk_cell BK846.out 0).trans rfl, (blk_cell BK846.out 1).trans rfl, (blk_cell BK846.out 2).trans rfl, (blk_cell BK832.out 0).trans rfl, (blk_cell BK832.out 1).trans rfl, (blk_cell BK832.out 2).trans rfl⟩ (fun hHeld => ?_)
   generalize wc.drew = w35 at HO_847002 BK832 BK846 HB hHeld ⊢
   refine take_ (i := 0) (N := some 35) (v := ?_) (a' := ?_) #[true, false, false, false, false] rfl rfl (by kernel_rfl) (fun _ _ _ h => h) (Or.inl ⟨by rfl, ?_⟩) hHeld ?_ ?_
   rotate_left
   · rintro w' ⟨s0, s1, s2, s3, s4, s5⟩
     go_simp
     with_reducible rfl
   rotate_left
   · simp only [Act.put, List.setIfInBounds_toArray, List.set_cons_zero, List.set_cons_succ, i64_w, i32_w]
     rfl
   refine take_ (i := 1) (N := some 36) (v := ?_) (a' := ?_) #[true, true, false, false, false] rfl rfl (by kernel_rfl) (fun _ _ _ h => h) (Or.inl ⟨by rfl, ?_⟩) hHeld ?_ ?_
   rotate_left
   · rintro w' ⟨s0, s1, s2, s3, s4, s5⟩
     go_simp
     with_reducible rfl
   rotate_left
   · simp only [Act.put, List.setIfInBounds_toArray, List.set_cons_zero, List.set_cons_succ, i64_w, i32_w]
     rfl
   refine one_ (i := 2) (N := some 37) #[true, true, true, false, false] rfl rfl (by kernel_rfl) (by decide) (fun K hK => ?_)
   refine goes_ Tryz.func34 (by kernel_rfl) rfl #[.agg #[.string a0_0, .int .i64 a0_1, .slice A0_2 l0_2.length c0_2]] (by rfl) rfl rfl argsS_ ?_
   with_reducible refine (laws_toZone.calls kj10 a0_0 a0_1 _ _ l0_2 t849 t850 t851 _ ?side1 ?side2 A28.out).mono ?_
   (case side1 => exact kC_ HR0_2.out HB.out)
   (case side2 => exact HC0_2.out)
   rintro e w36 ⟨v852, rfl, ho0, hb⟩
   refine ⟨_, rfl, ?_⟩
   have n0_ := a0_ (Kd.R_elder' (kR_ HO_847002.out) (Kd.R_base ho0) hb)
   have n1_ := a0_ (Kd.R_lower (Kd.R_new' ho0 (Kd.R_lt (kR_ HO_847002.out))) (below_size bq1_))
   have n2_ := a0_ (bkB_ BK832 hb)
   have n3_ := a0_ (bkB_ BK846 hb)
   have n4_ := a0_ (below_step bq1_ hb)
   clear HO_847002
   clear BK832
   clear BK846
   clear HB
   have HO_847002 := n0_
   have HO853 := n1_
   have BK832 := n2_
   have BK846 := n3_
   have HB := n4_
   clear n0_ n1_ n2_ n3_ n4_
   (try clear hb)
   (try clear hb2)
   (try clear hk)
   (try clear hi)
   (try clear ho0)
   obtain ⟨Ao37, co37, eo37⟩ := Kd.R_slice HO853.out
   (first | subst eo37 | (injection eo37 with f1_ f2_ f3_; have f4_ := f1_.symm; have f5_ := f3_.symm; clear f1_ f2_ f3_; subst f4_; subst f5_))
   refine hK.out _ _ ⟨(blk_cell BK846.out 0).trans rfl, (blk_cell BK846.out 1).trans rfl, (blk_cell BK846.out 2).trans rfl, (blk_cell BK832.out 0).trans rfl, (blk_cell BK832.out 1).trans rfl, (blk_cell BK832.out 2).trans rfl⟩ (fun hHeld => ?_)
   clear hK K
   refine normS_ ?_
   refine one_ (i := 3) (N := some 38) #[true, true, true, true, false] rfl rfl (by kernel_rfl) (by decide) (fun K hK => ?_)
   refine goes_ Tryz.func27 (by kernel_rfl) rfl #[.agg #[.string t841, .int .i64 t842, .slice Ao24 t843.length co24], .agg #[.string t849, .int .i64 t850, .slice Ao37 t851.length co37]] (by rfl) rfl rfl argsS_ ?_
   with_reducible refine (laws_eqZone.calls kj10 t841 t842 _ _ t843 t849 t850 _ _ t851 false _ ?side1 ?side2 ?side3 ?side4 A29.out).mono ?_
   (case side1 => exact kD_ (Kd.R_reads' HO_847002.out).2.2)
   (case side2 => exact (Kd.R_reads' HO_847002.out).2.1)
   (case side3 => exact kD_ (Kd.R_reads' HO853.out).2.2)
   (case side4 => exact (Kd.R_reads' HO853.out).2.1)
   rintro e w38 ⟨rfl, hb⟩
   refine ⟨_, rfl, ?_⟩
   replace HO_847002 := a0_ (Kd.R_below (kR_ HO_847002.out) hb)
   replace HO853 := a0_ (Kd.R_below (kR_ HO853.out) hb)
   replace BK832 := a0_ (bkB_ BK832 hb)
   replace BK846 := a0_ (bkB_ BK846 hb)
   replace HB := a0_ (below_step bq1_ hb)
   (try clear hb)
   (try clear hb2)
   (try clear hk)
   (try clear hi)
   refine hK.out _ _ ⟨(blk_cell BK846.out 0).trans rfl, (blk_cell BK846.out 1).trans rfl, (blk_cell BK846.out 2).trans rfl, (blk_cell BK832.out 0).trans rfl, (blk_cell BK832.out 1).trans rfl, (blk_cell BK832.out 2).trans rfl⟩ (fun hHeld => ?_)
   clear hK K
   refine normS_ ?_
   refine pure_ (i := 4) (N := some 39) (v := ?_) (a' := ?_) #[true, true, true, true, true] rfl rfl (by kernel_rfl) (fun _ _ _ h => h) (Or.inl ⟨by rfl, ?_⟩) ?_ ?_
   rotate_left
   · intro w'
     go_simp
     with_reducible rfl
   rotate_left
   · simp only [Act.put, List.setIfInBounds_toArray, List.set_cons_zero, List.set_cons_succ, i64_w, i32_w]
     rfl
   refine done_ (by kernel_rfl) ?_
   try go_wp2
   go_ret
   exact ⟨rr_, bq1_⟩
end Go.Proofs.YtkpkfallgjdkmaaGreatDoor.P
namespace Go.Proofs.YtkpkfallgjdkmaaGreatDoor.Pure
open Go.RowKit Go.Proofs.YtkpkfallgjdkmaaGreatDoor.P Go.Proofs.YtkpkfallgjdkmaaGreatDoorW.PrintWords Go.Proofs.YtkpkfallgjdkmaaGreatDoorW.PrintLast Go.Proofs.YtkpkfallgjdkmaaGreatDoorW.PrintMore
set_option linter.unusedVariables false
set_option linter.unusedSimpArgs false
/-- The lines of records. -/
def linesB : ByteArray → List ZRec → ByteArray
 | t, [] => t
 | t, r :: l => linesB (t ++ ((⟨#[10]⟩ : ByteArray) ++ rtext r.f0 r.f1 r.f2 r.f3)) l
theorem rt_size (r : ZRec) (h : r.f0.size ≤ 60 ∧ goodL r.f0.data.toList = true ∧ (1 ≤ r.f1 ∧ r.f1 ≤ 16) ∧ (0 ≤ r.f2 ∧ r.f2 ≤ 100000) ∧ r.f3.size ≤ 100) : (rtext r.f0 r.f1 r.f2 r.f3).size ≤ 300 := by
 have t1 := told_size r.f0
 have t2 := itB_size r.f1 (by omega) (by omega)
 have t3 := itB_size r.f2 (by omega) (by omega)
 unfold rtext
 simp only [ByteArray.size_append, sp1]
 omega
theorem lines_both (L : List ZRec) (hL : L.length ≤ 40) (hs : ∀ r ∈ L, Small r.f0 ∧ Small r.f3) (hg : ∀ r ∈ L, goodRB r = true) : ∀ (m i : Nat) (t : ByteArray), i + m = L.length → t.size ≤ 1100000 + 400 * i →
 Ev (fun k => spec_l6Text.l0 k t L (L.length : Int) (i : Int)) (linesB t (L.drop i)) ∧ Ev (fun k => impl_zoneText.l0 k t L (L.length : Int) (i : Int)) (linesB t (L.drop i))
 | 0, i, t, h, ht => by
  rw [List.drop_of_length_le (by omega), linesB]
  refine ⟨Ev.step (f := fun _ => some t) (fun k => ?_) (Ev.now _), Ev.step (f := fun _ => some t) (fun k => ?_) (Ev.now _)⟩
  · show spec_l6Text.l0 (k + 1) t L (L.length : Int) (i : Int) = _
    rw [spec_l6Text.l0, if_neg (by omega)]
  · show impl_zoneText.l0 (k + 1) t L (L.length : Int) (i : Int) = _
    rw [impl_zoneText.l0, if_neg (by omega)]
 | m + 1, i, t, h, ht => by
  have hi : i < L.length := by omega
  have hm := List.getElem_mem hi
  have hp := good_of (hs _ hm) (hg _ hm)
  have hz := rt_size L[i] hp
  obtain ⟨_, _, hb, hc, _⟩ := hp
  have e1 := rtext_spec L[i].f0 L[i].f1 L[i].f2 L[i].f3 (hs _ hm).1 (hs _ hm).2 (by omega) (by omega)
  have e2 := rtext_impl L[i].f0 L[i].f1 L[i].f2 L[i].f3 (hs _ hm).1 (hs _ hm).2 (by omega) (by omega)
  have nl : (⟨#[10]⟩ : ByteArray).size = 1 := rfl
  obtain ⟨i1, i2⟩ := lines_both L hL hs hg m (i + 1) (t ++ ((⟨#[10]⟩ : ByteArray) ++ rtext L[i].f0 L[i].f1 L[i].f2 L[i].f3)) (by omega) (by rw [ByteArray.size_append, ByteArray.size_append, nl]; omega)
  rw [List.drop_eq_getElem_cons hi, linesB]
  constructor
  · refine Ev.step (f := fun k => (spec_l3Text.f k L[i].f0 L[i].f1 L[i].f2 L[i].f3).bind fun t815 => (if 1 + t815.size ≤ 9223372036854775807 then (if t.size + ((⟨#[10]⟩ : ByteArray) ++ t815).size ≤ 9223372036854775807 then (spec_l6Text.l0 k (t ++ ((⟨#[10]⟩ : ByteArray) ++ t815)) L (L.length : Int) ((i + 1 : Nat) : Int)) else (none)) else (none))) (fun k => ?_) (Ev.bind e1 ?_)
    · rw [spec_l6Text.l0, if_pos (by omega), if_pos (by omega), if_pos (by omega), rdI L i hi, w64n (by omega)]
    · simp only [if_pos (show 1 + (rtext L[i].f0 L[i].f1 L[i].f2 L[i].f3).size ≤ 9223372036854775807 by omega), if_pos (show t.size + ((⟨#[10]⟩ : ByteArray) ++ rtext L[i].f0 L[i].f1 L[i].f2 L[i].f3).size ≤ 9223372036854775807 by rw [ByteArray.size_append, nl]; omega)]
      exact i1
  · refine Ev.step (fun k => ?_) i2
    rw [impl_zoneText.l0, if_pos (by omega), if_pos (by omega), if_pos (by omega), rdI L i hi, w64n (by omega), e2, Option.bind_some, if_pos (by omega), if_pos (by rw [ByteArray.size_append, nl]; omega)]
theorem zText_both (a : ByteArray) (c : Int) (L : List ZRec) (ha : a.size ≤ 1048576) (hL : L.length ≤ 1048576) (hs : ∀ r ∈ L, Small r.f0 ∧ Small r.f3) : ∃ (t : ByteArray) (ok : Bool), Ev (fun k => spec_ZoneText.f k a c L) (t, ok) ∧ Ev (fun k => impl_ZoneText.f k a c L) (t, ok) := by
 obtain ⟨r1, r2⟩ := zone_both a c L ha hL hs
 cases h : zoneB a c L with
 | false =>
  rw [h] at r1 r2
  exact ⟨(⟨#[]⟩ : ByteArray), false, Ev.congr (fun k => rfl) (Ev.bind r1 (Ev.now _)), Ev.congr (fun k => rfl) (Ev.bind r2 (Ev.now _))⟩
 | true =>
  rw [h] at r1 r2
  obtain ⟨hc, _, h40, hg, _⟩ := zone_parts h
  have s1 := told_size a
  have s2 := itB_size c (by omega) (by omega)
  obtain ⟨i1, i2⟩ := lines_both L h40 hs hg L.length 0 (toldB a ++ ((⟨#[32]⟩ : ByteArray) ++ itB c)) (by omega) (by rw [ByteArray.size_append, ByteArray.size_append, sp1]; omega)
  rw [List.drop_zero] at i1 i2
  refine ⟨linesB (toldB a ++ ((⟨#[32]⟩ : ByteArray) ++ itB c)) L, true, Ev.congr (fun k => rfl) (Ev.bind r1 ?_), Ev.congr (fun k => rfl) (Ev.bind r2 ?_)⟩
  · simp only [if_true]
    have hc1 : Ev (fun k => spec_l6Counter.f k c) (itB c) := Ev.congr (fun k => rfl) (Ev.bind (num_it c (by omega) (by omega)) (Ev.now _))
    have hj : Ev (fun k => spec_l6Text.j0 k (toldB a) a c L) (linesB (toldB a ++ ((⟨#[32]⟩ : ByteArray) ++ itB c)) L) := by
     refine Ev.step (f := fun k => (spec_l6Counter.f k c).bind fun t812 => (if 1 + t812.size ≤ 9223372036854775807 then (if (toldB a).size + ((⟨#[32]⟩ : ByteArray) ++ t812).size ≤ 9223372036854775807 then (spec_l6Text.l0 k (toldB a ++ ((⟨#[32]⟩ : ByteArray) ++ t812)) L (L.length : Int) 0) else (none)) else (none))) (fun k => by rw [spec_l6Text.j0]) (Ev.bind hc1 ?_)
     simp only [if_pos (show 1 + (itB c).size ≤ 9223372036854775807 by omega), if_pos (show (toldB a).size + ((⟨#[32]⟩ : ByteArray) ++ itB c).size ≤ 9223372036854775807 by rw [ByteArray.size_append, sp1]; omega)]
     exact i1
    refine Ev.bind (a := linesB (toldB a ++ ((⟨#[32]⟩ : ByteArray) ++ itB c)) L) (Ev.congr (fun k => ?_) hj) (Ev.now _)
    unfold spec_l6Text.f toldB
    by_cases he : a.toList = ([] : List UInt8)
    · rw [if_pos he, if_pos he]
    · rw [if_neg he, if_neg he]
  · simp only [if_true]
    refine Ev.bind (a := linesB (toldB a ++ ((⟨#[32]⟩ : ByteArray) ++ itB c)) L) (Ev.congr (fun k => ?_) i2) (Ev.now _)
    unfold impl_zoneText.f impl_told.f
    rw [show (if a.toList = ([] : List UInt8) then some (⟨#[46]⟩ : ByteArray) else some a) = some (toldB a) by unfold toldB; split <;> rfl, Option.bind_some, if_pos (by omega), itoa_it c (by omega) (by omega), Option.bind_some, if_pos (by rw [ByteArray.size_append, sp1]; omega), ByteArray.append_assoc]
    rfl
theorem FnExactZoneText : ∀ (a : ByteArray) (c : Int) (l : List LRec), a.size ≤ maxLen → l.length ≤ maxLen → (∀ y ∈ l, y.f0.size ≤ maxLen ∧ y.f3.size ≤ maxLen) → ∃ k, laws_FnExactZoneText.f k a c l = some true := by
 intro a c l ha hm hw
 suffices h : Ev (fun k => laws_FnExactZoneText.f k a c l) true from h.rounds
 obtain ⟨t, e, q⟩ := szZ_ev a c l ha hm hw
 refine Ev.congr (fun k => rfl) (Ev.bind e ?_)
 by_cases ht : t < 0
 · simp only [if_pos ht]; exact Ev.now _
 · obtain ⟨q1, q2, q3⟩ := q (by omega)
   have hl : (l.map conv).length ≤ 1048576 := by rw [List.length_map]; exact q2
   obtain ⟨n, ok, r1, r2⟩ := zText_both a c (l.map conv) q1 hl (small_conv q3)
   have eT := toZ_ev a c l q2
   have eE := eqZ_ev a c (l.map conv) hl
   simp only [if_neg ht]
   refine Ev.bind eT (Ev.bind r1 (Ev.bind eT (Ev.bind r2 ?_)))
   simp only [bne_self_eq_false, if_true]
   refine Ev.step (fun k => by rw [laws_FnExactZoneText.j0, if_neg (by decide)]) ?_
   exact Ev.bind eT (Ev.bind eE (Ev.now _))
end Go.Proofs.YtkpkfallgjdkmaaGreatDoor.Pure
