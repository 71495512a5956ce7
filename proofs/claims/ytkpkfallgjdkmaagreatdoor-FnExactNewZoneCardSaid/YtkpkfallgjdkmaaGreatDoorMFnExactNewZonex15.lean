/- FnExactNewZone: part 16 of 29 of my texts for this claim, joined; the theorem stands in the last. Conditions: none beyond the statement's. -/
import Derived.Test.YtkpkfallgjdkmaaGreatDoorMFnExactNewZonex4
import Derived.Test.YtkpkfallgjdkmaaGreatDoorMFnExactNewZonex7
import Derived.Test.YtkpkfallgjdkmaaGreatDoorMFnExactNewZonex9
import Derived.Test.YtkpkfallgjdkmaaGreatDoorMFnExactNewZonex13
import Derived.Test.YtkpkfallgjdkmaaGreatDoorMFnExactNewZonex14
import Derived.Test.YtkpkfallgjdkmaaGreatDoorMFnExactNewZonex8
import Derived.Lib.AtoiTie
import Derived.Lib.ItoaMem
import Derived.Test.YtkpkfallgjdkmaaGreatDoorMFnExactNewZonex6
namespace Go.Proofs.YtkpkfallgjdkmaaGreatDoor.P
open Go.RowKit Go.Proofs.YtkpkfallgjdkmaaGreatDoorW.PrintWords Go.Proofs.YtkpkfallgjdkmaaGreatDoorW.PrintLast Go.Proofs.YtkpkfallgjdkmaaGreatDoorW.PrintMore
attribute [local go_sem] max2_int min2_int max_two min_two max_three min_three max_four min_four
set_option linter.unusedVariables false
set_option linter.unusedSimpArgs false
def impl_compareKeys.f (k : Nat) (a0_0 : ByteArray) (a0_1 : Int) (a0_2 : Int) (a0_3 : ByteArray) (a1_0 : ByteArray) (a1_1 : Int) (a1_2 : Int) (a1_3 : ByteArray) : Option (Int) := (impl_compareNames.f k a0_0 a1_0).bind fun t577 => ((cmp_Compare_int.f a0_1 a1_1).bind fun t578 => ((cmp_Or_int.f k (([t577, t578] : List Int))).bind fun t582 => (some t582)))
def impl_compareKeys.T1 : Bool × List (List Nat × List Nat) := (true, [([], []), ([0], [0]), ([], []), ([2], [2]), ([1, 3], [1, 3]), ([], []), ([5], [5]), ([], []), ([7], [7]), ([6, 8, 4], [6, 8]), ([4, 9], [4, 9]), ([10, 9], [10]), ([11, 11, 0, 1, 2, 3, 4, 5, 6, 7, 8, 9, 10, 11], [11])])
def impl_compareKeys.B1 : List Nat := [0, 1, 0, 4, 15, 0, 32, 0, 128, 511, 1023, 2047, 4095]
theorem impl_compareKeys.tab1 : rtab .any (opsOf Tryz.f128 1) = impl_compareKeys.T1 := by kernel_rfl
theorem impl_compareKeys.bits1 : waitsOk impl_compareKeys.T1.2 impl_compareKeys.B1 = true := by kernel_rfl
set_option maxHeartbeats 8000000 in
set_option maxRecDepth 100000 in
theorem impl_compareKeys.calls (k : Nat) (a0_0 : ByteArray) (a0_1 : Int) (a0_2 : Int) (a0_3 : ByteArray) (a1_0 : ByteArray) (a1_1 : Int) (a1_2 : Int) (a1_3 : ByteArray) (r : Int) (w : World) (h : impl_compareKeys.f k a0_0 a0_1 a0_2 a0_3 a1_0 a1_1 a1_2 a1_3 = some r) :
 Calls Tryz.prog 128 #[.agg #[.string a0_0, .int .i64 a0_1, .int .i64 a0_2, .string a0_3], .agg #[.string a1_0, .int .i64 a1_1, .int .i64 a1_2, .string a1_3]] w fun e w' => e = .returned (.int .i64 r) ∧ Below w.heap.size w w' := by
 have hu72 := Tryz.underlying72
 have HB := a0_ (Below.refl w.heap.size w)
 have H : ((impl_compareNames.f k a0_0 a1_0).bind fun t577 => ((cmp_Compare_int.f a0_1 a1_1).bind fun t578 => ((cmp_Or_int.f k (([t577, t578] : List Int))).bind fun t582 => (some t582)))) = some r := h
 clear h
 obtain ⟨t577, A30, H⟩ := Option.bind_eq_some_iff.mp H
 have A3 := a0_ A30
 clear A30
 obtain ⟨t578, A40, H⟩ := Option.bind_eq_some_iff.mp H
 have A4 := a0_ A40
 clear A40
 obtain ⟨y579, hy579⟩ : ∃ y_ : List Int, y_ = (([t577, t578] : List Int)) := ⟨_, rfl⟩
 replace H : ((cmp_Or_int.f k y579).bind fun t582 => (some t582)) = some r := by first | (rw [hy579]; with_reducible exact H) | (have H2_ := (Option.bind_some _ _).symm.trans H; rw [hy579]; with_reducible exact H2_) | (have H2_ := (Option.bind_some _ _).symm.trans H; with_reducible exact H2_) | with_reducible exact H | (rw [hy579]; exact H) | exact H
 have Ny579 := a0_ hy579
 clear hy579
 obtain ⟨t582, A50, H⟩ := Option.bind_eq_some_iff.mp H
 have A5 := a0_ A50
 clear A50
 obtain rfl := Option.some.inj H
 go_enter Tryz.func128, Tryz.ntmps128
 try go_wp2_with (first | ((with_reducible refine gate_dst (N := 2) rfl ?_); refine boxS_ 2 #[.string a0_0, .int .i64 a0_1, .int .i64 a0_2, .string a0_3] 72 (fun gb575 hg w6 hbox hb => ?_); have n0_ := a0_ (below_step bq0_ hb); have n1_ := a0_ (hbox); have n2_ := a0_ (gw_ hg : w.heap.size ≤ gb575); have n3_ := n2_; clear HB; have HB := n0_; have BK575 := n1_; have GW575 := n2_; have GE575 := n3_; clear n0_ n1_ n2_ n3_; clear hb hbox hg) | ((with_reducible refine gate_dst (N := 3) rfl ?_); refine boxS_ 3 #[.string a1_0, .int .i64 a1_1, .int .i64 a1_2, .string a1_3] 72 (fun gb576 hg w7 hbox hb => ?_); have n0_ := a0_ (bkB_ BK575 hb); have n1_ := a0_ (below_step bq1_ hb); have n2_ := a0_ (hbox); have n3_ := a0_ (gw_ hg (below_size bq1_) : w.heap.size ≤ gb576); have n4_ := n3_; have n5_ := a0_ ((by rw [hg]; exact Nat.ne_of_lt (blk_lt (g := gb575) (o := .cells #[.string a0_0, .int .i64 a0_1, .int .i64 a0_2, .string a0_3] 72 (0, 0)) (kB_ BK575.out)) : gb575 ≠ gb576)); have n6_ := a0_ ((by rw [hg]; exact Nat.ne_of_gt (blk_lt (g := gb575) (o := .cells #[.string a0_0, .int .i64 a0_1, .int .i64 a0_2, .string a0_3] 72 (0, 0)) (kB_ BK575.out)) : gb576 ≠ gb575)); clear BK575; clear HB; have BK575 := n0_; have HB := n1_; have BK576 := n2_; have GW576 := n3_; have GE576 := n4_; have NB575_576 := n5_; have NB576_575 := n6_; clear n0_ n1_ n2_ n3_ n4_ n5_ n6_; clear hb hbox hg))
 replace BK575 := a0_ (blk_drew BK575.out)
 replace BK576 := a0_ (blk_drew BK576.out)
 replace HB := a0_ (below_drew1 HB.out)
 refine start_ (n := 13) (S := fun w' => w'.cell? ⟨gb575, 0, none⟩ = some (.string a0_0) ∧ w'.cell? ⟨gb575, 1, none⟩ = some (.int .i64 a0_1) ∧ w'.cell? ⟨gb575, 2, none⟩ = some (.int .i64 a0_2) ∧ w'.cell? ⟨gb575, 3, none⟩ = some (.string a0_3) ∧ w'.cell? ⟨gb576, 0, none⟩ = some (.string a1_0) ∧ w'.cell? ⟨gb576, 1, none⟩ = some (.int .i64 a1_1) ∧ w'.cell? ⟨gb576, 2, none⟩ = some (.int .i64 a1_2) ∧ w'.cell? ⟨gb576, 3, none⟩ = some (.string a1_3)) (ds := []) #[false, false, false, false, false, false, false, false, false, false, false, false, false] (by kernel_rfl) rfl rfl ⟨(blk_cell BK575.out 0).trans rfl, (blk_cell BK575.out 1).trans rfl, (blk_cell BK575.out 2).trans rfl, (blk_cell BK575.out 3).trans rfl, (blk_cell BK576.out 0).trans rfl, (blk_cell BK576.out 1).trans rfl, (blk_cell BK576.out 2).trans rfl, (blk_cell BK576.out 3).trans rfl⟩ (fun hHeld => ?_); refine with_tabW impl_compareKeys.tab1 impl_compareKeys.bits1 (fun HT_ HW_ => ?_)
 generalize w7.drew = w8 at BK575 BK576 HB hHeld ⊢
 refine pureS_ 0 (some 5) ?_
 refine pureS_ 2 (some 7) ?_
 refine pureS_ 5 (some 10) ?_
 refine pureS_ 7 (some 12) ?_
 refine takeS_ 1 (some 6) ?_
 refine takeS_ 3 (some 8) ?_
 refine takeS_ 6 (some 11) ?_
 refine takeS_ 8 (some 13) ?_
 refine oneS_ 4 (some 9) (fun K hK => ?_)
 refine goes_ Tryz.func150 (by kernel_rfl) rfl #[.string a0_0, .string a1_0] (by rfl) rfl rfl argsS_ ?_
 with_reducible refine (impl_compareNames.calls k a0_0 a1_0 t577 _ A3.out).mono ?_
 rintro e w9 ⟨rfl, hb⟩
 refine ⟨_, rfl, ?_⟩
 replace BK575 := a0_ (bkB_ BK575 hb)
 replace BK576 := a0_ (bkB_ BK576 hb)
 replace HB := a0_ (below_step bq1_ hb)
 (try clear hb)
 (try clear hb2)
 (try clear hk)
 (try clear hi)
 refine hK.out _ _ ⟨(blk_cell BK575.out 0).trans rfl, (blk_cell BK575.out 1).trans rfl, (blk_cell BK575.out 2).trans rfl, (blk_cell BK575.out 3).trans rfl, (blk_cell BK576.out 0).trans rfl, (blk_cell BK576.out 1).trans rfl, (blk_cell BK576.out 2).trans rfl, (blk_cell BK576.out 3).trans rfl⟩ (fun hHeld => ?_)
 clear hK K
 refine normS_ ?_
 refine oneS_ 9 (some 14) (fun K hK => ?_)
 refine goes_ Tryz.func131 (by kernel_rfl) rfl #[.int .i64 a0_1, .int .i64 a1_1] (by rfl) rfl rfl argsS_ ?_
 with_reducible refine (cmp_Compare_int.calls a0_1 a1_1 t578 _ A4.out).mono ?_
 rintro e w' ⟨rfl, ⟨nd, rfl⟩⟩
 refine ⟨_, rfl, ?_⟩
 refine hK.out _ _ ⟨(blk_cell BK575.out 0).trans rfl, (blk_cell BK575.out 1).trans rfl, (blk_cell BK575.out 2).trans rfl, (blk_cell BK575.out 3).trans rfl, (blk_cell BK576.out 0).trans rfl, (blk_cell BK576.out 1).trans rfl, (blk_cell BK576.out 2).trans rfl, (blk_cell BK576.out 3).trans rfl⟩ (fun hHeld => ?_)
 clear hK K
 refine normS_ ?_
 refine oneS_ 10 (some 15) (fun K hK => ?_)
 refine Kd.R_lit_step (Kd.int .i64) _ 3 ?hg (N := 15) ?hd (xs := ([t577, t578] : List Int)) (inner := [.int .i64 t577, .int .i64 t578]) (ok := fun _ => True) (okp := fun _ => True) ?hr ?hp (fun _ hk => hk) trivial (Below.refl _ _) (Nat.le_refl _) (by simp) ?_; (case hd => rfl); (case hg => rfl); (case hr => first | (go_simp; done) | (go_simp; rfl)); (case hp => exact (Reps.one (show Kd.M (Kd.int .i64) _ _ _ t577 [.int .i64 t577] from rfl) (Reps.one (show Kd.M (Kd.int .i64) _ _ _ t578 [.int .i64 t578] from rfl) (Reps.none _ _))))
 intro v580 w10 ho11 hb hg_ hnew_
 clear hg_ hnew_
 (first | rw [← Ny579.out] at ho11 | (simp only [Int.reduceToNat] at ho11; rw [← Ny579.out] at ho11))
 have HO581 := a0_ (Kd.R_lower ho11 (below_size bq1_))
 replace BK575 := a0_ (bkB_ BK575 hb)
 replace BK576 := a0_ (bkB_ BK576 hb)
 replace HB := a0_ (below_step bq1_ hb)
 clear hb ho11
 obtain ⟨Ao12, co12, eo12⟩ := Kd.R_slice HO581.out
 (first | subst eo12 | (injection eo12 with f1_ f2_ f3_; have f4_ := f1_.symm; have f5_ := f3_.symm; clear f1_ f2_ f3_; subst f4_; subst f5_))
 refine hK.out _ _ ⟨(blk_cell BK575.out 0).trans rfl, (blk_cell BK575.out 1).trans rfl, (blk_cell BK575.out 2).trans rfl, (blk_cell BK575.out 3).trans rfl, (blk_cell BK576.out 0).trans rfl, (blk_cell BK576.out 1).trans rfl, (blk_cell BK576.out 2).trans rfl, (blk_cell BK576.out 3).trans rfl⟩ (fun hHeld => ?_)
 clear hK K
 refine normS_ ?_
 refine oneS_ 11 (some 16) (fun K hK => ?_)
 refine goes_ Tryz.func127 (by kernel_rfl) rfl #[.slice Ao12 y579.length co12] (by rfl) rfl rfl argsS_ ?_
 with_reducible refine (cmp_Or_int.calls k _ _ y579 t582 _ ?side1 ?side2 A5.out).mono ?_
 (case side1 => exact kD_ (Kd.R_reads' HO581.out).2.2)
 (case side2 => exact (Kd.R_reads' HO581.out).2.1)
 rintro e w' ⟨rfl, ⟨nd, rfl⟩⟩
 refine ⟨_, rfl, ?_⟩
 refine hK.out _ _ ⟨(blk_cell BK575.out 0).trans rfl, (blk_cell BK575.out 1).trans rfl, (blk_cell BK575.out 2).trans rfl, (blk_cell BK575.out 3).trans rfl, (blk_cell BK576.out 0).trans rfl, (blk_cell BK576.out 1).trans rfl, (blk_cell BK576.out 2).trans rfl, (blk_cell BK576.out 3).trans rfl⟩ (fun hHeld => ?_)
 clear hK K
 refine normS_ ?_
 refine pureS_ 12 (some 4) ?_
 refine done_ (done_of HT_.out (by kernel_rfl)) ?_
 try go_wp2
 go_ret
 exact ⟨rr_, bq1_⟩
def impl_isApex.f (a0 : ByteArray) : Option (Bool) := (impl_GoodName.f a0).bind fun t498 => (if t498 = true then ((strings_Contains.f a0 (⟨#[42]⟩ : ByteArray)).bind fun t499 => (some (!t499))) else (some false))
set_option maxHeartbeats 8000000 in
set_option maxRecDepth 100000 in
theorem impl_isApex.calls (a0 : ByteArray) (r : Bool) (w : World) (h : impl_isApex.f a0 = some r) :
 Calls Tryz.prog 87 #[.string a0] w fun e w' => e = .returned (.bool r) ∧ Below w.heap.size w w' := by
 have HB := a0_ (Below.refl w.heap.size w)
 have H : ((impl_GoodName.f a0).bind fun t498 => (if t498 = true then ((strings_Contains.f a0 (⟨#[42]⟩ : ByteArray)).bind fun t499 => (some (!t499))) else (some false))) = some r := h
 clear h
 obtain ⟨t498, A20, H⟩ := Option.bind_eq_some_iff.mp H
 have A2 := a0_ A20
 clear A20
 by_cases c3 : t498 = true
 case neg =>
  replace c3 := Bool.eq_false_iff.mpr c3
  subst c3
  rw [if_neg (show ¬ (false = true) by decide)] at H
  obtain rfl := Option.some.inj H
  go_enter Tryz.func87, Tryz.ntmps87
  go_wp2_with (first | ((with_reducible refine gate_callee (f := 72) rfl ?_); refine goesL_ (some 4) rfl rfl Tryz.func72 (by kernel_rfl) rfl #[.string a0] rfl argsS_ ?_; (with_reducible refine (impl_GoodName.calls a0 false _ A2.out).mono ?_); rintro e w6 ⟨rfl, hb⟩; refine ⟨_, rfl, ?_⟩; replace HB := a0_ (below_step bq0_ hb); (try clear hb); (try clear hb2); (try clear hk); (try clear hi)))
  go_ret
  exact ⟨rr_, bq0_⟩
 subst c3
 rw [if_pos rfl] at H
 obtain ⟨t499, A40, H⟩ := Option.bind_eq_some_iff.mp H
 have A4 := a0_ A40
 clear A40
 obtain rfl := Option.some.inj H
 go_enter Tryz.func87, Tryz.ntmps87
 go_wp2_with (first | ((with_reducible refine gate_callee (f := 72) rfl ?_); refine goesL_ (some 4) rfl rfl Tryz.func72 (by kernel_rfl) rfl #[.string a0] rfl argsS_ ?_; (with_reducible refine (impl_GoodName.calls a0 true _ A2.out).mono ?_); rintro e w5 ⟨rfl, hb⟩; refine ⟨_, rfl, ?_⟩; replace HB := a0_ (below_step bq0_ hb); (try clear hb); (try clear hb2); (try clear hk); (try clear hi)) | (go_at_call 113; (with_reducible refine (strings_Contains.calls a0 (⟨#[42]⟩ : ByteArray) t499 _ A4.out).mono ?_); rintro e w' ⟨rfl, ⟨nd, rfl⟩⟩))
 go_ret
 exact ⟨rr_, bq0_⟩
end Go.Proofs.YtkpkfallgjdkmaaGreatDoor.P
namespace Go.Proofs.YtkpkfallgjdkmaaGreatDoor.Pure
open Go.RowKit Go.Proofs.YtkpkfallgjdkmaaGreatDoor.P Go.Proofs.YtkpkfallgjdkmaaGreatDoorW.PrintWords Go.Proofs.YtkpkfallgjdkmaaGreatDoorW.PrintLast
set_option linter.unusedVariables false
set_option linter.unusedSimpArgs false
theorem specGood_ev (s : ByteArray) (hs : s.size < 549755813888) : Ev (fun k => spec_GoodName.f k s) (goodL s.data.toList) := by
 obtain ⟨r, h1, h2⟩ := good_ev s hs
 refine Ev.congr (f := fun k => (spec_l1Labels.f k s).bind fun bt => some bt.2) (fun k => rfl) (Ev.bind h1 ?_)
 rw [h2]
 exact Ev.now _
theorem good_size {l : List UInt8} (h : goodL l = true) : l.length ≤ 60 := by
 unfold goodL at h
 simp at h
 exact h.1
end Go.Proofs.YtkpkfallgjdkmaaGreatDoor.Pure
namespace Go.Proofs.YtkpkfallgjdkmaaGreatDoor.Pure
open Go.RowKit Go.Proofs.YtkpkfallgjdkmaaGreatDoor.P Go.Proofs.YtkpkfallgjdkmaaGreatDoorW.PrintWords Go.Proofs.YtkpkfallgjdkmaaGreatDoorW.PrintLast Go.Proofs.YtkpkfallgjdkmaaGreatDoorW.PrintMore
set_option linter.unusedVariables false
set_option linter.unusedSimpArgs false
def digB (b : UInt8) : Bool := decide (48 ≤ b.toNat ∧ b.toNat ≤ 57)
def valF (a : Nat) (l : List UInt8) : Nat := l.foldl (fun a b => a * 10 + (b.toNat - 48)) a
def valL (l : List UInt8) : Nat := valF 0 l
/-- A number in Go's own spelling. -/
def canL (l : List UInt8) : Bool := decide (1 ≤ l.length ∧ l.length ≤ 10) && l.all digB && (decide (l.length = 1) || decide (l.head? ≠ some 48))
theorem valF_app (a : Nat) (p q : List UInt8) : valF a (p ++ q) = valF (valF a p) q := by unfold valF; rw [List.foldl_append]
theorem valF_one (a : Nat) (b : UInt8) : valF a [b] = a * 10 + (b.toNat - 48) := rfl
theorem decFrom_val : ∀ (l : List UInt8) (a : Nat), l.all digB = true → Lib.decFrom a l = some (valF a l)
 | [], a, _ => rfl
 | b :: r, a, h => by
  rw [List.all_cons, Bool.and_eq_true] at h
  have hb : 48 ≤ b.toNat ∧ b.toNat ≤ 57 := of_decide_eq_true h.1
  unfold Lib.decFrom Lib.digitVal
  rw [if_pos hb]
  exact decFrom_val r _ h.2
theorem valF_lt : ∀ (l : List UInt8) (a : Nat), l.all digB = true → valF a l < (a + 1) * 10 ^ l.length
 | [], a, _ => by show a < (a + 1) * 10 ^ 0; omega
 | b :: r, a, h => by
  rw [List.all_cons, Bool.and_eq_true] at h
  have hb : 48 ≤ b.toNat ∧ b.toNat ≤ 57 := of_decide_eq_true h.1
  have ih := valF_lt r (a * 10 + (b.toNat - 48)) h.2
  show valF (a * 10 + (b.toNat - 48)) r < _
  rw [List.length_cons, Nat.pow_succ]
  have h1 : (a * 10 + (b.toNat - 48) + 1) * 10 ^ r.length ≤ ((a + 1) * 10) * 10 ^ r.length := Nat.mul_le_mul_right _ (by omega)
  have h2 : ((a + 1) * 10) * 10 ^ r.length = (a + 1) * (10 ^ r.length * 10) := by rw [Nat.mul_assoc, Nat.mul_comm 10]
  omega
theorem digits_all : ∀ (n u : Nat), u ≤ n → (Lib.decDigits u).all digB = true ∧ valL (Lib.decDigits u) = u ∧ 1 ≤ (Lib.decDigits u).length ∧ (1 ≤ u → (Lib.decDigits u).head? ≠ some 48)
 | n, u, hu => by
  unfold Lib.decDigits
  by_cases h : u < 10
  · rw [dif_pos h]
    have hb : (UInt8.ofNat (48 + u)).toNat = 48 + u := by rw [UInt8.toNat_ofNat']; omega
    refine ⟨?_, ?_, by simp, fun h1 => ?_⟩
    · rw [List.all_cons, List.all_nil, Bool.and_true]; unfold digB; rw [hb]; exact decide_eq_true (by omega)
    · show 0 * 10 + ((UInt8.ofNat (48 + u)).toNat - 48) = u; rw [hb]; omega
    · intro e
      have e2 := congrArg UInt8.toNat (Option.some.inj e)
      rw [hb] at e2
      have : (48 : UInt8).toNat = 48 := rfl
      omega
  · rw [dif_neg h]
    match n, hu with
    | 0, hu => omega
    | n + 1, hu =>
     obtain ⟨g1, g2, g3, g4⟩ := digits_all n (u / 10) (by omega)
     have hb : (UInt8.ofNat (48 + u % 10)).toNat = 48 + u % 10 := by rw [UInt8.toNat_ofNat']; omega
     refine ⟨?_, ?_, by rw [List.length_append]; omega, fun _ => ?_⟩
     · rw [List.all_append, g1, Bool.true_and, List.all_cons, List.all_nil, Bool.and_true]; unfold digB; rw [hb]; exact decide_eq_true (by omega)
     · unfold valL at g2 ⊢; rw [valF_app, g2, valF_one, hb]; omega
     · have g5 := g4 (by omega)
       cases hd : Lib.decDigits (u / 10) with
       | nil => rw [hd] at g3; simp at g3
       | cons x r => rw [hd] at g5; simpa using g5
theorem digits_back : ∀ (n : Nat) (l : List UInt8), l.length ≤ n → l ≠ [] → l.all digB = true → (l.length = 1 ∨ l.head? ≠ some 48) → Lib.decDigits (valL l) = l
 | n, l, hn, hne, ha, hh => by
  rcases List.eq_nil_or_concat l with rfl | ⟨p, b, rfl⟩
  · exact absurd rfl hne
  · rw [List.concat_eq_append] at *
    rw [List.all_append, Bool.and_eq_true, List.all_cons, Bool.and_eq_true] at ha
    have hb : 48 ≤ b.toNat ∧ b.toNat ≤ 57 := of_decide_eq_true ha.2.1
    have hv : valL (p ++ [b]) = valL p * 10 + (b.toNat - 48) := by unfold valL; rw [valF_app, valF_one]
    have hbb : UInt8.ofNat (48 + (b.toNat - 48)) = b := by rw [show 48 + (b.toNat - 48) = b.toNat by omega]; exact UInt8.ofNat_toNat
    rw [hv]
    by_cases hp : p = []
    · subst hp
      unfold Lib.decDigits
      rw [show valL [] = 0 from rfl, dif_pos (by omega), Nat.zero_mul, Nat.zero_add, hbb]
      rfl
    · match n, hn with
      | 0, hn => simp at hn
      | n + 1, hn =>
       have hpl := List.length_pos_iff.2 hp
       have hhp : p.head? ≠ some 48 := by
        rcases hh with hh | hh
        · rw [List.length_append] at hh; simp at hh; exact absurd hh hp
        · cases p with
          | nil => exact absurd rfl hp
          | cons x r => simpa using hh
       have ih := digits_back n p (by simp at hn; omega) hp ha.1 (.inr hhp)
       have hpos : 1 ≤ valL p := by
        cases p with
        | nil => exact absurd rfl hp
        | cons x r =>
         rw [List.all_cons, Bool.and_eq_true] at ha
         have hx : 48 ≤ x.toNat ∧ x.toNat ≤ 57 := of_decide_eq_true ha.1.1
         have hx2 : x.toNat ≠ 48 := fun e => hhp (by show some x = some 48; rw [show x = 48 from UInt8.toNat_inj.1 e])
         have mono : ∀ (r : List UInt8) (a : Nat), a ≤ valF a r := by
          intro r
          induction r with
          | nil => intro a; exact Nat.le_refl _
          | cons y r ihr => intro a; have := ihr (a * 10 + (y.toNat - 48)); show a ≤ valF (a * 10 + (y.toNat - 48)) r; omega
         have := mono r (0 * 10 + (x.toNat - 48))
         show 1 ≤ valF (0 * 10 + (x.toNat - 48)) r
         omega
       unfold Lib.decDigits
       rw [dif_neg (by omega), show (valL p * 10 + (b.toNat - 48)) / 10 = valL p by omega, show (valL p * 10 + (b.toNat - 48)) % 10 = b.toNat - 48 by omega, ih, hbb]
theorem can_val {l : List UInt8} (h : canL l = true) : valL l < 10000000000 := by
 unfold canL at h
 simp only [Bool.and_eq_true, decide_eq_true_eq] at h
 have h1 := valF_lt l 0 h.1.2
 have h2 : 10 ^ l.length ≤ 10 ^ 10 := Nat.pow_le_pow_right (by omega) h.1.1.2
 unfold valL
 omega
theorem digits_many : ∀ (k u : Nat), k + 1 < Lib.nDigits u → 10 ^ (k + 1) ≤ u
 | 0, u, h => by
  by_cases hu : u < 10
  · rw [Lib.nDigits_small hu] at h; omega
  · omega
 | k + 1, u, h => by
  by_cases hu : u < 10
  · rw [Lib.nDigits_small hu] at h; omega
  · rw [Lib.nDigits_big hu] at h
    have ih := digits_many k (u / 10) (by omega)
    rw [Nat.pow_succ]
    omega
/-- numberIn takes a number in Go's own spelling, not above the greatest one; and no other text. -/
theorem number_eq (s : ByteArray) (most : Int) (hs : s.size ≤ 281474976710656) (h0 : 0 ≤ most) (h1 : most < 9999999999) : ∃ v, impl_numberIn.f s most = some (v, canL s.data.toList && decide ((valL s.data.toList : Int) ≤ most)) ∧ ((canL s.data.toList && decide ((valL s.data.toList : Int) ≤ most)) = true → v = (valL s.data.toList : Int)) := by
 unfold impl_numberIn.f
 rw [if_pos hs, Lib.toList_data]
 generalize hl : s.data.toList = l
 by_cases hc : canL l = true
 · have hc' := hc
   unfold canL at hc'
   simp only [Bool.and_eq_true, Bool.or_eq_true, decide_eq_true_eq] at hc'
   have hv := can_val hc
   have hne : l ≠ [] := by rintro rfl; simp at hc'
   have hat : Lib.atoiAll l = .ok (valL l : Int) := by
    rw [Lib.atoiAll_short l (by omega)]
    cases l with
    | nil => exact absurd rfl hne
    | cons b r =>
     have ha := hc'.1.2
     rw [List.all_cons, Bool.and_eq_true] at ha
     have hb : 48 ≤ b.toNat ∧ b.toNat ≤ 57 := of_decide_eq_true ha.1
     have n45 : (b == 45) = false := beq_eq_false_iff_ne.mpr fun e => by rw [e] at hb; have : (45 : UInt8).toNat = 45 := rfl; omega
     have n43 : (b == 43) = false := beq_eq_false_iff_ne.mpr fun e => by rw [e] at hb; have : (43 : UInt8).toNat = 43 := rfl; omega
     unfold Lib.atoi Lib.decNat
     show Lib.NumEnd.ofOption (if (b == 45) = true then _ else (if (b == 43) = true then _ else Option.map (fun (m : Nat) => (m : Int)) (if (b :: r).isEmpty = true then none else Lib.decFrom 0 (b :: r)))) = _
     rw [n45, n43, if_neg (by simp), if_neg (by simp), if_neg (by simp), decFrom_val _ 0 hc'.1.2]
     rfl
   have hit : Lib.itoa (valL l : Int) = l := by
    rw [Lib.itoa_nonneg]
    exact digits_back l.length l (Nat.le_refl _) hne hc'.1.2 hc'.2
   rw [hat]
   refine ⟨(valL l : Int), ?_, fun _ => rfl⟩
   simp only [hit, beq_self_eq_true, Bool.and_true, hc, Bool.true_and]
   congr 2
   rw [decide_eq_decide]
   omega
 · rw [Bool.eq_false_iff.mpr hc, Bool.false_and]
   cases ha : Lib.atoiAll l
   · next v =>
     refine ⟨v, ?_, fun h => by cases h⟩
     show some (v, decide (0 ≤ v ∧ v ≤ most) && (Lib.itoa v == l)) = some (v, false)
     congr 2
     rw [Bool.and_eq_false_iff]
     by_cases hv : 0 ≤ v ∧ v ≤ most
     · right
       rw [beq_eq_false_iff_ne]
       intro e
       apply hc
       obtain ⟨u, rfl⟩ : ∃ u : Nat, v = (u : Int) := ⟨v.toNat, by omega⟩
       rw [Lib.itoa_nonneg] at e
       obtain ⟨g1, g2, g3, g4⟩ := digits_all u u (Nat.le_refl _)
       have hlen : (Lib.decDigits u).length ≤ 10 := by
        rw [Lib.decDigits_length]
        by_cases h10 : u < 10
        · rw [Lib.nDigits_small h10]; omega
        · by_cases hbig : Lib.nDigits u ≤ 10
          · exact hbig
          · have := digits_many 9 u (by omega)
            omega
       rw [← e]
       unfold canL
       rw [g1, decide_eq_true (by omega), Bool.true_and, Bool.true_and, Bool.or_eq_true]
       by_cases hu : 1 ≤ u
       · exact .inr (decide_eq_true (g4 hu))
       · left
         obtain rfl : u = 0 := by omega
         rw [Lib.decDigits_one (by omega)]
         rfl
     · left
       exact decide_eq_false hv
   · exact ⟨0, rfl, fun h => by cases h⟩
   · exact ⟨_, rfl, fun h => by cases h⟩
/-- What the reference reads. -/
def numS (l : List UInt8) : Int := if canL l = true then (valL l : Int) else -1
theorem int_loop (s : ByteArray) (hs : s.size ≤ 10) : ∀ (m i a : Nat), i + m = s.size → a = valL (s.data.toList.take i) → (s.data.toList.take i).all digB = true →
 Ev (fun k => spec_l1Int.l0 k s (a : Int) (i : Int)) (if s.data.toList.all digB = true then (valL s.data.toList : Int) else -1)
 | 0, i, a, him, ha, hd => by
  rw [List.take_of_length_le (by rw [← size_len]; omega)] at ha hd
  rw [if_pos hd, ← ha]
  refine Ev.step (f := fun _ => some (a : Int)) (fun k => ?_) (Ev.now _)
  show spec_l1Int.l0 (k + 1) s (a : Int) (i : Int) = _
  conv => lhs; unfold spec_l1Int.l0
  rw [if_neg (by omega)]
 | m + 1, i, a, him, ha, hd => by
  have hi : i < s.data.toList.length := by rw [← size_len]; omega
  have hbt := bt_list s i hi
  have htk : s.data.toList.take (i + 1) = s.data.toList.take i ++ [s.data.toList[i]] := by rw [List.take_add_one, List.getElem?_eq_getElem hi]; rfl
  have halt : a < 10 ^ 10 := by
   have := valF_lt _ 0 hd
   have h2 : 10 ^ (s.data.toList.take i).length ≤ 10 ^ 10 := Nat.pow_le_pow_right (by omega) (by rw [List.length_take]; omega)
   rw [ha]
   unfold valL
   omega
  by_cases hb : digB s.data.toList[i] = true
  · have hb' : 48 ≤ (s.data.toList[i]).toNat ∧ (s.data.toList[i]).toNat ≤ 57 := of_decide_eq_true hb
    have ih := int_loop s hs m (i + 1) (a * 10 + ((s.data.toList[i]).toNat - 48)) (by omega) (by rw [htk]; unfold valL at ha ⊢; rw [valF_app, ← ha, valF_one]) (by rw [htk, List.all_append, hd, Bool.true_and, List.all_cons, hb]; rfl)
    refine Ev.step (fun k => ?_) ih
    show spec_l1Int.l0 (k + 1) s (a : Int) (i : Int) = _
    conv => lhs; unfold spec_l1Int.l0
    have hw : wrap64 ((wrap64 (10 * (a : Int))) + ((((s.data.toList[i]).toNat : Int) - 48) % 256)) = ((a * 10 + ((s.data.toList[i]).toNat - 48) : Nat) : Int) := by
     have h1 : wrap64 (10 * (a : Int)) = 10 * (a : Int) := by unfold wrap64; omega
     rw [h1]
     unfold wrap64
     omega
    rw [if_pos (by omega), if_pos (by omega), hbt, if_neg (by omega), if_neg (by omega), hw, w64n (by omega)]
  · have hall : s.data.toList.all digB = false := by
     rw [List.all_eq_false]
     exact ⟨_, List.getElem_mem hi, hb⟩
    rw [hall, if_neg (by simp)]
    have hb' : ¬ (48 ≤ (s.data.toList[i]).toNat ∧ (s.data.toList[i]).toNat ≤ 57) := of_decide_eq_false (Bool.eq_false_iff.mpr hb)
    refine Ev.step (f := fun _ => some (-1)) (fun k => ?_) (Ev.now _)
    show spec_l1Int.l0 (k + 1) s (a : Int) (i : Int) = _
    conv => lhs; unfold spec_l1Int.l0
    rw [if_pos (by omega), if_pos (by omega), hbt]
    by_cases h1 : ((s.data.toList[i]).toNat : Int) < 48
    · rw [if_pos h1]
    · rw [if_neg h1, if_pos (by omega)]
theorem int_ev (s : ByteArray) (hs : s.size < 4611686018427387904) : Ev (fun k => spec_l1Int.f k s) (numS s.data.toList) := by
 have hj : Ev (fun k => spec_l1Int.j0 k s true) (-1) := Ev.step (f := fun _ => some (-1)) (fun k => rfl) (Ev.now _)
 have hin : spec_l1In.f (s.size : Int) 1 10 = some (decide (1 ≤ (s.size : Int) ∧ (s.size : Int) ≤ 10)) := within_spec _ _ _
 by_cases h1 : 1 ≤ (s.size : Int) ∧ (s.size : Int) ≤ 10
 · have hlen : 0 < s.data.toList.length := by rw [← size_len]; omega
   have hbt := bt_list s 0 hlen
   have hmain : ∀ ld : Bool, ld = decide (s.data.toList.head? = some 48 ∧ s.size > 1) → Ev (fun k => spec_l1Int.j0 k s ld) (numS s.data.toList) := by
    intro ld hld
    cases ld with
    | true =>
     have h2 := of_decide_eq_true hld.symm
     have : canL s.data.toList = false := by
      unfold canL
      rw [decide_eq_false (show ¬ s.data.toList.length = 1 by rw [← size_len]; omega), decide_eq_false (show ¬ s.data.toList.head? ≠ some 48 from fun h => h h2.1), Bool.or_false, Bool.and_false]
     unfold numS
     rw [this, if_neg (by simp)]
     exact hj
    | false =>
     have h2 := of_decide_eq_false hld.symm
     have hl := int_loop s (by omega) s.size 0 0 (by omega) rfl rfl
     have e : (if s.data.toList.all digB = true then (valL s.data.toList : Int) else -1) = numS s.data.toList := by
      unfold numS canL
      rw [decide_eq_true (show 1 ≤ s.data.toList.length ∧ s.data.toList.length ≤ 10 by rw [← size_len]; omega), Bool.true_and]
      have h3 : (decide (s.data.toList.length = 1) || decide (s.data.toList.head? ≠ some 48)) = true := by
       rw [Bool.or_eq_true]
       by_cases h4 : s.data.toList.head? = some 48
       · exact .inl (decide_eq_true (by rw [← size_len]; have : ¬ s.size > 1 := fun h5 => h2 ⟨h4, h5⟩; omega))
       · exact .inr (decide_eq_true h4)
      rw [h3, Bool.and_true]
     rw [← e]
     exact Ev.step (fun k => rfl) hl
   have hhead : s.data.toList.head? = some (s.data.toList[0]) := by rw [List.head?_eq_getElem?, List.getElem?_eq_getElem hlen]
   refine Ev.congr (f := fun k => spec_l1Int.j0 k s (decide (s.data.toList.head? = some 48 ∧ s.size > 1))) (fun k => ?_) (hmain _ rfl)
   unfold spec_l1Int.f
   rw [hin, Option.bind_some, decide_eq_true h1, if_pos rfl, if_pos (by omega)]
   have hb0 : bt s 0 = ((s.data.toList[0]).toNat : Int) := hbt
   rw [hb0, hhead]
   by_cases h48 : s.data.toList[0] = 48
   · rw [if_pos (by rw [h48]; rfl)]
     congr 1
     rw [decide_eq_decide]
     constructor
     · intro h; exact ⟨by rw [h48], by omega⟩
     · intro h; omega
   · rw [if_neg (fun h => h48 (UInt8.toNat_inj.1 (by have : (48 : UInt8).toNat = 48 := rfl; omega)))]
     congr 1
     rw [eq_comm, decide_eq_false_iff_not]
     rintro ⟨h, _⟩
     exact h48 (Option.some.inj h)
 · have : canL s.data.toList = false := by
    unfold canL
    rw [decide_eq_false (show ¬ (1 ≤ s.data.toList.length ∧ s.data.toList.length ≤ 10) by rw [← size_len]; omega)]
    rfl
   unfold numS
   rw [this, if_neg (by simp)]
   refine Ev.congr (fun k => ?_) hj
   unfold spec_l1Int.f
   rw [hin, Option.bind_some, decide_eq_false h1, if_neg (by simp)]
end Go.Proofs.YtkpkfallgjdkmaaGreatDoor.Pure
