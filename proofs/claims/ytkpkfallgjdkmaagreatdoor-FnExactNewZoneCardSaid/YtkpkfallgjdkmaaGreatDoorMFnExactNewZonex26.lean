/- FnExactNewZone: part 27 of 29 of my texts for this claim, joined; the theorem stands in the last. Conditions: none beyond the statement's. -/
import Derived.Test.YtkpkfallgjdkmaaGreatDoorMFnExactNewZonex4
import Derived.Test.YtkpkfallgjdkmaaGreatDoorMFnExactNewZonex25
import Derived.Test.YtkpkfallgjdkmaaGreatDoorMFnExactNewZonex20
import Derived.Test.YtkpkfallgjdkmaaGreatDoorMFnExactNewZonex13
import Derived.Test.YtkpkfallgjdkmaaGreatDoorMFnExactNewZonex12
namespace Go.Proofs.YtkpkfallgjdkmaaGreatDoor.P
open Go.RowKit Go.Proofs.YtkpkfallgjdkmaaGreatDoorW.PrintWords Go.Proofs.YtkpkfallgjdkmaaGreatDoorW.PrintLast Go.Proofs.YtkpkfallgjdkmaaGreatDoorW.PrintMore
attribute [local go_sem] max2_int min2_int max_two min_two max_three min_three max_four min_four
set_option linter.unusedVariables false
set_option linter.unusedSimpArgs false
def impl_NewZone.f (k : Nat) (a0 : ByteArray) : Option (ByteArray × Int × (List (S72)) × Bool) := (some (([(⟨a0, 6, 60, (⟨#[48]⟩ : ByteArray)⟩ : S72)] : List (S72)) : List (S72))).bind fun y625 => ((impl_GoodZone.f k a0 0 y625).bind fun t629 => (if t629 = true then (some (a0, 0, y625, true)) else (some ((⟨#[]⟩ : ByteArray), 0, ([] : List (S72)), false))))
set_option maxHeartbeats 8000000 in
set_option maxRecDepth 100000 in
theorem impl_NewZone.calls (k : Nat) (a0 : ByteArray) (r1 : ByteArray) (r2 : Int) (r3 : List (S72)) (r4 : Bool) (w : World) (h : impl_NewZone.f k a0 = some (r1, r2, r3, r4)) (hv_ : Vars w := by exact vv_) :
 Calls Tryz.prog 26 #[.string a0] w fun e w' => ∃ v2_ : Value, e = .returned (.tuple #[.agg #[.string r1, .int .i64 r2, v2_], .bool r4]) ∧ Kd.R k72 72 w' w.heap.size (fun _ => True) v2_ r3 ∧ Below w.heap.size w w' := by
 have HV_ := a0_ hv_
 clear hv_
 have hu42 := Tryz.underlying42
 have hu72 := Tryz.underlying72
 have HB := a0_ (Below.refl w.heap.size w)
 have H : ((some (([(⟨a0, 6, 60, (⟨#[48]⟩ : ByteArray)⟩ : S72)] : List (S72)) : List (S72))).bind fun y625 => ((impl_GoodZone.f k a0 0 y625).bind fun t629 => (if t629 = true then (some (a0, 0, y625, true)) else (some ((⟨#[]⟩ : ByteArray), 0, ([] : List (S72)), false))))) = some (r1, r2, r3, r4) := h
 clear h
 obtain ⟨y625, hy625⟩ : ∃ y_ : List (S72), y_ = (([(⟨a0, 6, 60, (⟨#[48]⟩ : ByteArray)⟩ : S72)] : List (S72))) := ⟨_, rfl⟩
 replace H : ((impl_GoodZone.f k a0 0 y625).bind fun t629 => (if t629 = true then (some (a0, 0, y625, true)) else (some ((⟨#[]⟩ : ByteArray), 0, ([] : List (S72)), false)))) = some (r1, r2, r3, r4) := by first | (rw [hy625]; with_reducible exact H) | (have H2_ := (Option.bind_some _ _).symm.trans H; rw [hy625]; with_reducible exact H2_) | (have H2_ := (Option.bind_some _ _).symm.trans H; with_reducible exact H2_) | with_reducible exact H | (rw [hy625]; exact H) | exact H
 have Ny625 := a0_ hy625
 clear hy625
 obtain ⟨t629, A20, H⟩ := Option.bind_eq_some_iff.mp H
 have A2 := a0_ A20
 clear A20
 by_cases c3 : t629 = true
 case pos =>
  subst c3
  rw [if_pos rfl] at H
  simp only [Option.some.injEq, Prod.mk.injEq] at H
  obtain ⟨rfl, rfl, rfl, rfl⟩ := H
  go_enter Tryz.func26, Tryz.ntmps26
  go_wp2_with (first | ((with_reducible refine gate_dst (N := 2) rfl ?_); refine boxS_ 2 #[.string (⟨#[]⟩ : ByteArray), .int .i64 0, .slice none 0 0] 42 (fun gb624 hg w4 hbox hb => ?_); have n0_ := a0_ (below_step bq0_ hb); have n1_ := a0_ (hbox); have n2_ := a0_ (gw_ hg : w.heap.size ≤ gb624); have n3_ := n2_; clear HB; have HB := n0_; have BK624 := n1_; have GW624 := n2_; have GE624 := n3_; clear n0_ n1_ n2_ n3_; clear hb hbox hg) | ((with_reducible refine gate_dst (N := 8) rfl ?_); refine Kd.R_lit k72 _ 72 ?hg (N := 8) ?hd (xs := ([(⟨a0, 6, 60, (⟨#[48]⟩ : ByteArray)⟩ : S72)] : List (S72))) (inner := [.string a0, .int .i64 6, .int .i64 60, .string (⟨#[48]⟩ : ByteArray)]) (ok := fun _ => True) (okp := fun _ => True) ?hr ?hp (fun _ hk => hk) trivial (Below.refl _ _) (Nat.le_refl _) (by simp) ?_; (case hd => rfl); (case hg => rfl); (case hr => first | (go_simp; done) | (go_simp; rfl)); (case hp => exact (Reps.c4 (show Kd.M k72 _ _ _ (⟨a0, 6, 60, (⟨#[48]⟩ : ByteArray)⟩ : S72) [.string a0, .int .i64 6, .int .i64 60, .string (⟨#[48]⟩ : ByteArray)] from (k72_mkM _ _ _ (⟨a0, 6, 60, (⟨#[48]⟩ : ByteArray)⟩ : S72) )) (Reps.none _ _))); intro v626 w5 ho6 hb hg_ hnew_; clear hg_ hnew_; (first | rw [← Ny625.out] at ho6 | (simp only [Int.reduceToNat] at ho6; rw [← Ny625.out] at ho6)); have HO627 := a0_ (Kd.R_lower ho6 (below_size bq1_)); replace BK624 := a0_ (bkB_ BK624 hb); replace HB := a0_ (below_step bq1_ hb); clear hb ho6; obtain ⟨Ao7, co7, eo7⟩ := Kd.R_slice HO627.out; subst eo7) | ((with_reducible refine gate_dst (N := 4) rfl ?_); refine boxS_ 4 #[.string (⟨#[]⟩ : ByteArray), .int .i64 0, .slice none 0 0] 42 (fun gb628 hg w8 hbox hb => ?_); have n0_ := a0_ (Kd.R_below (kR_ HO627.out) hb); have n1_ := a0_ (bkB_ BK624 hb); have n2_ := a0_ (below_step bq1_ hb); have n3_ := a0_ (hbox); have n4_ := a0_ (gw_ hg (below_size bq1_) : w.heap.size ≤ gb628); have n5_ := n4_; have n6_ := a0_ ((by rw [hg]; exact Nat.ne_of_lt (blk_lt (g := gb624) (o := .cells #[.string (⟨#[]⟩ : ByteArray), .int .i64 0, .slice none 0 0] 42 (0, 0)) (kB_ BK624.out)) : gb624 ≠ gb628)); have n7_ := a0_ ((by rw [hg]; exact Nat.ne_of_gt (blk_lt (g := gb624) (o := .cells #[.string (⟨#[]⟩ : ByteArray), .int .i64 0, .slice none 0 0] 42 (0, 0)) (kB_ BK624.out)) : gb628 ≠ gb624)); clear HO627; clear BK624; clear HB; have HO627 := n0_; have BK624 := n1_; have HB := n2_; have BK628 := n3_; have GW628 := n4_; have GE628 := n5_; have NB624_628 := n6_; have NB628_624 := n7_; clear n0_ n1_ n2_ n3_ n4_ n5_ n6_ n7_; clear hb hbox hg; have hnb9 := NB628_624.out; have hnc9 := NB624_628.out; obtain ⟨z10_0, z10_1, z10_2, q10_0, q10_1, q10_2⟩ := bk3_ BK628.out) | ((with_reducible refine gate_callee (f := 35) rfl ?_); refine goesL_ (some 11) rfl rfl Tryz.func35 (by kernel_rfl) rfl #[.agg #[.string a0, .int .i64 0, .slice Ao7 y625.length co7]] rfl argsS_ ?_; (with_reducible refine (impl_GoodZone.calls k a0 0 _ _ y625 true _ ?side1 ?side2 A2.out).mono ?_); (case side1 => refine (Kd.R_reads' (e := 72) (base := w.heap.size) (ok := fun k_ => True) (n := y625.length) (c := co7) ?_).2.2; exact (kR_ (farR3_ HO627.out BK628.out))); (case side2 => exact (Kd.R_reads' HO627.out).2.1); rintro e w11 ⟨rfl, hb⟩; refine ⟨_, rfl, ?_⟩; replace HO627 := a0_ (Kd.R_below (kR_ (farR3_ HO627.out BK628.out)) hb); replace BK624 := a0_ (blk_below (g := gb624) (o := .cells #[.string (⟨#[]⟩ : ByteArray), .int .i64 0, .slice none 0 0] 42 (0, 0)) (bfar3_ NB624_628.out BK624.out) hb); replace BK628 := a0_ (blk_below (g := gb628) (o := .cells #[.string a0, .int .i64 0, .slice Ao7 y625.length co7] 42 (0, 0)) (put3_ BK628.out) hb); replace HB := a0_ (below_step bq1_ hb); (try clear hb); (try clear hb2); (try clear hk); (try clear hi); obtain ⟨z12_0, z12_1, z12_2, q12_0, q12_1, q12_2⟩ := bk3_ BK628.out; obtain ⟨z13_0, z13_1, z13_2, q13_0, q13_1, q13_2⟩ := bk3_ BK624.out))
  refine bodyPost_ret (results_ct rfl _ _ gb624 42 #[.string a0, .int .i64 0, .slice Ao7 y625.length co7] (0, 0) _ rfl (put3_ BK624.out) Tryz.underlying42 rfl (by kernel_rfl)) rfl ?_
  exact ⟨_, rr_, by (with_reducible repeat (first | apply Kd.R_alloc | apply Kd.R_drewN | apply Kd.R_drew)); exact Kd.R_mono (Kd.R_far (p := ⟨gb624, 2, none⟩) (Kd.R_far (p := ⟨gb624, 1, none⟩) (Kd.R_far (p := ⟨gb624, 0, none⟩) (Kd.R_types HO627.out BK624.out (by decide)) (fun _ hk => hk.2) (.string a0)) (fun _ hk => hk.2) (.int .i64 0)) (fun _ hk => hk.2) (.slice Ao7 y625.length co7)) (fun _ hk => trivial), bq1_⟩
 replace c3 := Bool.eq_false_iff.mpr c3
 subst c3
 rw [if_neg (show ¬ (false = true) by decide)] at H
 simp only [Option.some.injEq, Prod.mk.injEq] at H
 obtain ⟨rfl, rfl, rfl, rfl⟩ := H
 go_enter Tryz.func26, Tryz.ntmps26
 go_wp2_with (first | ((with_reducible refine gate_dst (N := 2) rfl ?_); refine boxS_ 2 #[.string (⟨#[]⟩ : ByteArray), .int .i64 0, .slice none 0 0] 42 (fun gb624 hg w14 hbox hb => ?_); have n0_ := a0_ (below_step bq0_ hb); have n1_ := a0_ (hbox); have n2_ := a0_ (gw_ hg : w.heap.size ≤ gb624); have n3_ := n2_; clear HB; have HB := n0_; have BK624 := n1_; have GW624 := n2_; have GE624 := n3_; clear n0_ n1_ n2_ n3_; clear hb hbox hg) | ((with_reducible refine gate_dst (N := 8) rfl ?_); refine Kd.R_lit k72 _ 72 ?hg (N := 8) ?hd (xs := ([(⟨a0, 6, 60, (⟨#[48]⟩ : ByteArray)⟩ : S72)] : List (S72))) (inner := [.string a0, .int .i64 6, .int .i64 60, .string (⟨#[48]⟩ : ByteArray)]) (ok := fun _ => True) (okp := fun _ => True) ?hr ?hp (fun _ hk => hk) trivial (Below.refl _ _) (Nat.le_refl _) (by simp) ?_; (case hd => rfl); (case hg => rfl); (case hr => first | (go_simp; done) | (go_simp; rfl)); (case hp => exact (Reps.c4 (show Kd.M k72 _ _ _ (⟨a0, 6, 60, (⟨#[48]⟩ : ByteArray)⟩ : S72) [.string a0, .int .i64 6, .int .i64 60, .string (⟨#[48]⟩ : ByteArray)] from (k72_mkM _ _ _ (⟨a0, 6, 60, (⟨#[48]⟩ : ByteArray)⟩ : S72) )) (Reps.none _ _))); intro v626 w15 ho16 hb hg_ hnew_; clear hg_ hnew_; (first | rw [← Ny625.out] at ho16 | (simp only [Int.reduceToNat] at ho16; rw [← Ny625.out] at ho16)); have HO627 := a0_ (Kd.R_lower ho16 (below_size bq1_)); replace BK624 := a0_ (bkB_ BK624 hb); replace HB := a0_ (below_step bq1_ hb); clear hb ho16; obtain ⟨Ao17, co17, eo17⟩ := Kd.R_slice HO627.out; subst eo17) | ((with_reducible refine gate_dst (N := 4) rfl ?_); refine boxS_ 4 #[.string (⟨#[]⟩ : ByteArray), .int .i64 0, .slice none 0 0] 42 (fun gb628 hg w18 hbox hb => ?_); have n0_ := a0_ (Kd.R_below (kR_ HO627.out) hb); have n1_ := a0_ (bkB_ BK624 hb); have n2_ := a0_ (below_step bq1_ hb); have n3_ := a0_ (hbox); have n4_ := a0_ (gw_ hg (below_size bq1_) : w.heap.size ≤ gb628); have n5_ := n4_; have n6_ := a0_ ((by rw [hg]; exact Nat.ne_of_lt (blk_lt (g := gb624) (o := .cells #[.string (⟨#[]⟩ : ByteArray), .int .i64 0, .slice none 0 0] 42 (0, 0)) (kB_ BK624.out)) : gb624 ≠ gb628)); have n7_ := a0_ ((by rw [hg]; exact Nat.ne_of_gt (blk_lt (g := gb624) (o := .cells #[.string (⟨#[]⟩ : ByteArray), .int .i64 0, .slice none 0 0] 42 (0, 0)) (kB_ BK624.out)) : gb628 ≠ gb624)); clear HO627; clear BK624; clear HB; have HO627 := n0_; have BK624 := n1_; have HB := n2_; have BK628 := n3_; have GW628 := n4_; have GE628 := n5_; have NB624_628 := n6_; have NB628_624 := n7_; clear n0_ n1_ n2_ n3_ n4_ n5_ n6_ n7_; clear hb hbox hg; have hnb19 := NB628_624.out; have hnc19 := NB624_628.out; obtain ⟨z20_0, z20_1, z20_2, q20_0, q20_1, q20_2⟩ := bk3_ BK628.out) | ((with_reducible refine gate_callee (f := 35) rfl ?_); refine goesL_ (some 11) rfl rfl Tryz.func35 (by kernel_rfl) rfl #[.agg #[.string a0, .int .i64 0, .slice Ao17 y625.length co17]] rfl argsS_ ?_; (with_reducible refine (impl_GoodZone.calls k a0 0 _ _ y625 false _ ?side1 ?side2 A2.out).mono ?_); (case side1 => refine (Kd.R_reads' (e := 72) (base := w.heap.size) (ok := fun k_ => True) (n := y625.length) (c := co17) ?_).2.2; exact (kR_ (farR3_ HO627.out BK628.out))); (case side2 => exact (Kd.R_reads' HO627.out).2.1); rintro e w21 ⟨rfl, hb⟩; refine ⟨_, rfl, ?_⟩; replace HO627 := a0_ (Kd.R_below (kR_ (farR3_ HO627.out BK628.out)) hb); replace BK624 := a0_ (blk_below (g := gb624) (o := .cells #[.string (⟨#[]⟩ : ByteArray), .int .i64 0, .slice none 0 0] 42 (0, 0)) (bfar3_ NB624_628.out BK624.out) hb); replace BK628 := a0_ (blk_below (g := gb628) (o := .cells #[.string a0, .int .i64 0, .slice Ao17 y625.length co17] 42 (0, 0)) (put3_ BK628.out) hb); replace HB := a0_ (below_step bq1_ hb); (try clear hb); (try clear hb2); (try clear hk); (try clear hi); obtain ⟨z22_0, z22_1, z22_2, q22_0, q22_1, q22_2⟩ := bk3_ BK624.out))
 refine bodyPost_ret (results_ct rfl _ _ gb624 42 #[.string (⟨#[]⟩ : ByteArray), .int .i64 0, .slice none 0 0] (0, 0) _ rfl (put3_ BK624.out) Tryz.underlying42 rfl (by kernel_rfl)) rfl ?_
 exact ⟨_, rr_, by first | exact Kd.R_nil _ _ _ _ _ | exact Kd.N_nil _ _ _ _ _ | exact Kd.V_nil _ _ _ _ _ | exact Kd.Q_nil _ _ _ _ _ | exact Kd.S_nil _ _ _ _ _, bq1_⟩
end Go.Proofs.YtkpkfallgjdkmaaGreatDoor.P
namespace Go.Proofs.YtkpkfallgjdkmaaGreatDoor.Pure
open Go.RowKit Go.Proofs.YtkpkfallgjdkmaaGreatDoor.P Go.Proofs.YtkpkfallgjdkmaaGreatDoorW.PrintWords Go.Proofs.YtkpkfallgjdkmaaGreatDoorW.PrintLast Go.Proofs.YtkpkfallgjdkmaaGreatDoorW.PrintMore
set_option linter.unusedVariables false
set_option linter.unusedSimpArgs false
theorem num_it (n : Int) (h0 : 0 ≤ n) (h1 : n < 9223372036854775807) : Ev (fun k => spec_l1Num.f k n) (itB n) := by
 have := num_ev n.toNat n.toNat (Nat.le_refl _) (by omega)
 rwa [show ((n.toNat : Nat) : Int) = n by omega] at this
theorem itoa_it (n : Int) (h0 : 0 ≤ n) (h1 : n < 9223372036854775807) : strconv_Itoa.f n = some (itB n) := by
 unfold strconv_Itoa.f itB Lib.itoa
 rw [if_pos (by omega), if_neg (by omega)]
 rfl
/-- The serial of a counter, as a text. -/
def serT (c : Int) : ByteArray := itB (Int.tmod c 4294967296)
theorem ser_range {c : Int} (h : 0 ≤ c) : 0 ≤ Int.tmod c 4294967296 ∧ Int.tmod c 4294967296 < 9223372036854775807 := by
 rw [Int.tmod_eq_emod_of_nonneg h]
 omega
theorem soa_ev (apex : ByteArray) (c : Int) (L : List ZRec) (h : 0 ≤ c) : Ev (fun k => spec_l6Soa.f k apex c L) (serT c) :=
 Ev.congr (fun k => rfl) (Ev.bind (num_it _ (ser_range h).1 (ser_range h).2) (Ev.now _))
theorem ser_impl (c : Int) (h : 0 ≤ c) : impl_serialText.f c = some (serT c) := by
 unfold impl_serialText.f
 rw [itoa_it _ (ser_range h).1 (ser_range h).2]
 rfl
theorem gz_loop (apex : ByteArray) (c : Int) (L : List ZRec) (hc : 0 ≤ c) (hL : L.length < 1099511627776) : ∀ (m i : Nat), i + m = L.length →
 Ev (fun k => spec_GoodZone.l0 k L (L.length : Int) (i : Int) apex c L) ((L.drop i).all fun r => !decide (r.f1 = 6) || decide (r.f3 = serT c))
 | 0, i, h => by
  rw [List.drop_of_length_le (by omega), List.all_nil]
  refine Ev.step (f := fun _ => some true) (fun k => ?_) (Ev.now _)
  show spec_GoodZone.l0 (k + 1) L (L.length : Int) (i : Int) apex c L = _
  rw [spec_GoodZone.l0, if_neg (by omega)]
 | m + 1, i, h => by
  have hi : i < L.length := by omega
  have ih := gz_loop apex c L hc hL m (i + 1) (by omega)
  have es : ∀ k, spec_GoodZone.l0 (k + 1) L (L.length : Int) (i : Int) apex c L = (if L[i].f1 = 6 then ((spec_l6Soa.f k apex c L).bind fun t750 => (if L[i].f3.toList = t750.toList then (spec_GoodZone.l0 k L (L.length : Int) ((i + 1 : Nat) : Int) apex c L) else (some false))) else (spec_GoodZone.l0 k L (L.length : Int) ((i + 1 : Nat) : Int) apex c L)) := fun k => by
   rw [spec_GoodZone.l0, if_pos (by omega), if_pos (by omega), if_pos (by omega), rdI L i hi, w64n (by omega)]
  rw [List.drop_eq_getElem_cons hi, List.all_cons]
  refine Ev.step es ?_
  by_cases h6 : L[i].f1 = 6
  · rw [decide_eq_true h6, Bool.not_true, Bool.false_or]
    simp only [if_pos h6]
    refine Ev.bind (soa_ev apex c L hc) ?_
    by_cases hs : L[i].f3 = serT c
    · rw [decide_eq_true hs, Bool.true_and]
      exact Ev.congr (fun k => if_pos ((tl_eq _ _).2 hs)) ih
    · rw [decide_eq_false hs, Bool.false_and]
      exact Ev.congr (fun k => if_neg (fun e => hs ((tl_eq _ _).1 e))) (Ev.now _)
  · rw [decide_eq_false h6, Bool.not_false, Bool.true_or, Bool.true_and]
    simp only [if_neg h6]
    exact ih
/-- No rule is broken: then there is one record of a serial, at the apex. -/
theorem soa_one {apex : ByteArray} {L : List ZRec} (h : ruleS apex L = 0) : (atL L apex 6).length = 1 ∧ ∀ r ∈ L, r.f1 = 6 → r.f0 = apex := by
 unfold ruleS at h
 by_cases h1 : (L.any fun r => !belowL (nmL r) apex.data.toList) = true
 · rw [if_pos h1] at h; cases h
 · rw [if_neg h1] at h
   by_cases h2 : soaW apex L ≠ 1
   · rw [if_pos h2] at h; cases h
   · have h3 : soaW apex L = 1 := Decidable.not_not.1 h2
     rw [soa_parts] at h3
     have h4 : (L.filter fun r => decide (r.f1 = 6) && decide (r.f0 ≠ apex)).length = 0 := by omega
     refine ⟨by omega, fun r hr h6 => ?_⟩
     apply Decidable.byContradiction
     intro hne
     have : r ∈ L.filter fun r => decide (r.f1 = 6) && decide (r.f0 ≠ apex) := List.mem_filter.2 ⟨hr, by simp [h6, hne]⟩
     rw [List.length_eq_zero_iff.1 h4] at this
     cases this
theorem soa_all {apex : ByteArray} {L : List ZRec} (h : ruleS apex L = 0) (T : ByteArray) : (L.all fun r => !decide (r.f1 = 6) || decide (r.f3 = T)) = (atL L apex 6).all fun r => decide (r.f3 = T) := by
 have h1 := (soa_one h).2
 rw [Bool.eq_iff_iff, List.all_eq_true, List.all_eq_true]
 unfold atL
 constructor
 · intro hh r hr
   obtain ⟨h2, h3⟩ := List.mem_filter.1 hr
   have h4 : r.f1 = 6 := by simpa using (Bool.and_eq_true_iff.1 h3).2
   have := hh r h2
   rw [decide_eq_true h4, Bool.not_true, Bool.false_or] at this
   exact this
 · intro hh r hr
   by_cases h6 : r.f1 = 6
   · rw [decide_eq_true h6, Bool.not_true, Bool.false_or]
     exact hh r (List.mem_filter.2 ⟨hr, by simp [h6, h1 r hr h6]⟩)
   · rw [decide_eq_false h6, Bool.not_false, Bool.true_or]
/-- A zone is good. -/
noncomputable def zoneB (apex : ByteArray) (c : Int) (L : List ZRec) : Bool := decide (0 ≤ c ∧ c ≤ 1152921504606846976) && (decide (ruleT apex L = 0) && (atL L apex 6).all fun r => decide (r.f3 = serT c))
theorem ruleT_zero {apex : ByteArray} {L : List ZRec} (h : ruleT apex L = 0) : wholeB apex L = true ∧ ruleS apex L = 0 := by
 unfold ruleT at h
 by_cases hw : wholeB apex L = true
 · rw [if_pos hw] at h; exact ⟨hw, h⟩
 · rw [if_neg hw] at h; cases h
theorem zone_both (apex : ByteArray) (c : Int) (L : List ZRec) (ha : apex.size ≤ 1048576) (hL : L.length ≤ 1048576) (hs : ∀ r ∈ L, Small r.f0 ∧ Small r.f3) : Ev (fun k => spec_GoodZone.f k apex c L) (zoneB apex c L) ∧ Ev (fun k => impl_GoodZone.f k apex c L) (zoneB apex c L) := by
 obtain ⟨r1, r2⟩ := rule_both apex L ha hL hs
 unfold zoneB
 constructor
 · refine Ev.congr (f := fun k => if decide (0 ≤ c ∧ c ≤ 1152921504606846976) = true then ((spec_RuleOf.f k apex L).bind fun t747 => (spec_GoodZone.j0 k (t747 != 0) apex c L)) else (spec_GoodZone.j0 k true apex c L)) (fun k => by unfold spec_GoodZone.f; rw [within_spec, Option.bind_some]) ?_
   have jb : Ev (fun k => spec_GoodZone.j0 k true apex c L) false := Ev.step (f := fun _ => some false) (fun k => by rw [spec_GoodZone.j0, if_pos rfl]) (Ev.now _)
   by_cases hc : 0 ≤ c ∧ c ≤ 1152921504606846976
   · simp only [decide_eq_true hc, if_true, Bool.true_and]
     refine Ev.bind r1 ?_
     by_cases h0 : ruleT apex L = 0
     · rw [decide_eq_true h0, Bool.true_and, ← soa_all (ruleT_zero h0).2, show (ruleT apex L != 0) = false from bne_eq_false_iff_eq.mpr h0]
       have := gz_loop apex c L hc.1 (by omega) L.length 0 (by omega)
       rw [List.drop_zero] at this
       exact Ev.step (fun k => by rw [spec_GoodZone.j0, if_neg (by decide)]; rfl) this
     · rw [decide_eq_false h0, Bool.false_and, show (ruleT apex L != 0) = true from bne_iff_ne.mpr h0]
       exact jb
   · simp only [decide_eq_false hc, Bool.false_eq_true, if_false, Bool.false_and]
     exact jb
 · have hcnt : impl_isCounter.f c = some (decide (0 ≤ c ∧ c ≤ 1152921504606846976)) := by
    unfold impl_isCounter.f
    rw [within_eq]
    rfl
   refine Ev.congr (f := fun k => if decide (0 ≤ c ∧ c ≤ 1152921504606846976) = true then ((impl_RuleOf.f k apex L).bind fun t618 => (if t618 = 0 then ((impl_at.f k L apex 6).bind fun t619 => (if 0 < (t619.length : Int) then ((impl_serialText.f c).bind fun t623 => (some (((rd_T72 t619 0).f3).toList == t623.toList))) else (none))) else (some false))) else (some false)) (fun k => by unfold impl_GoodZone.f; rw [hcnt, Option.bind_some]) ?_
   by_cases hc : 0 ≤ c ∧ c ≤ 1152921504606846976
   · simp only [decide_eq_true hc, if_true, Bool.true_and]
     refine Ev.bind r2 ?_
     by_cases h0 : ruleT apex L = 0
     · simp only [if_pos h0, decide_eq_true h0, Bool.true_and]
       have h1 := (soa_one (ruleT_zero h0).2).1
       refine Ev.bind (at_ev apex 6 L hL) ?_
       obtain ⟨x, hx⟩ := List.length_eq_one_iff.1 h1
       rw [hx, ser_impl c hc.1]
       simp only [Option.bind_some, if_pos (show (0 : Int) < (([x] : List ZRec).length : Int) by rw [List.length_singleton]; decide), List.all_cons, List.all_nil, Bool.and_true]
       rw [show rd_T72 [x] 0 = x from rfl]
       have e : (x.f3.toList == (serT c).toList) = decide (x.f3 = serT c) := by
        rw [Bool.eq_iff_iff, beq_iff_eq, decide_eq_true_eq]; exact tl_eq _ _
       rw [e]
       exact Ev.now _
     · simp only [if_neg h0, decide_eq_false h0, Bool.false_and]
       exact Ev.now _
   · simp only [decide_eq_false hc, Bool.false_eq_true, if_false, Bool.false_and]
     exact Ev.now _
theorem eqZ_ev (a : ByteArray) (c : Int) (L : List IRec) (hl : L.length ≤ 1048576) : Ev (fun k => laws_eqZone.f k a c L a c L) true := by
 unfold laws_eqZone.f
 simp only [if_true]
 exact Ev.bind (eqRS_ev L hl) (Ev.now _)
end Go.Proofs.YtkpkfallgjdkmaaGreatDoor.Pure
