/- FnExactReplyTo: part 20 of 23 of my texts for this claim, joined; the theorem stands in the last. Conditions: none beyond the statement's. -/
import Derived.Test.YtkpkfallgjdkmaaGreatDoorMFnExactReplyTox18
namespace Go.Proofs.YtkpkfallgjdkmaaGreatDoor.P
open Go.RowKit Go.Proofs.YtkpkfallgjdkmaaGreatDoorW.PrintWords Go.Proofs.YtkpkfallgjdkmaaGreatDoorW.PrintLast Go.Proofs.YtkpkfallgjdkmaaGreatDoorW.PrintMore
attribute [local go_sem] max2_int min2_int max_two min_two max_three min_three max_four min_four
set_option linter.unusedVariables false
set_option linter.unusedSimpArgs false
def impl_ReplyTo.f (k : Nat) (a0_0 : Int) (a0_1 : Bool) (a0_2 : Bool) (a0_3 : Int) (a0_4 : ByteArray) (a0_5 : Int) (l0_6 : List (S72)) (l0_7 : List (S72)) (a1 : Int) (l2 : List (S72)) (l3 : List (S72)) : Option (Int × Bool × Bool × Int × ByteArray × Int × (List (S72)) × (List (S72)) × Bool) := (slices_Clone_rec.f l2).bind fun t341 => ((slices_Clone_rec.f l3).bind fun t344 => ((impl_GoodMessage.f k a0_0 a0_1 a0_2 a0_3 a0_4 a0_5 l0_6 l0_7).bind fun t348 => (if t348 = true then (if a0_1 = true then (some (0, false, false, 0, (⟨#[]⟩ : ByteArray), 0, ([] : List (S72)), ([] : List (S72)), false)) else ((impl_GoodMessage.f k a0_0 true false a1 a0_4 a0_5 t341 t344).bind fun t349 => (if t349 = true then (some (a0_0, true, false, a1, a0_4, a0_5, t341, t344, true)) else (some (0, false, false, 0, (⟨#[]⟩ : ByteArray), 0, ([] : List (S72)), ([] : List (S72)), false))))) else (some (0, false, false, 0, (⟨#[]⟩ : ByteArray), 0, ([] : List (S72)), ([] : List (S72)), false)))))
def impl_ReplyTo.T1 : Bool × List (List Nat × List Nat) := (true, [([], []), ([0], [0]), ([], []), ([], []), ([3], [3]), ([], []), ([5], [5]), ([], []), ([7], [7]), ([], []), ([9, 8], [9]), ([1, 2, 4, 6, 8, 10], [1, 2, 4, 6, 8, 10]), ([], []), ([12, 11, 10, 0, 1, 2, 3, 4, 5, 6, 7, 8, 9, 10, 11, 12], [11, 12])])
def impl_ReplyTo.B1 : List Nat := [0, 1, 0, 0, 8, 0, 32, 0, 128, 0, 896, 2047, 0, 8191]
theorem impl_ReplyTo.tab1 : rtab .any (opsOf Tryz.f22 1) = impl_ReplyTo.T1 := by kernel_rfl
theorem impl_ReplyTo.bits1 : waitsOk impl_ReplyTo.T1.2 impl_ReplyTo.B1 = true := by kernel_rfl
set_option maxHeartbeats 8000000 in
set_option maxRecDepth 100000 in
theorem impl_ReplyTo.calls (k : Nat) (a0_0 : Int) (a0_1 : Bool) (a0_2 : Bool) (a0_3 : Int) (a0_4 : ByteArray) (a0_5 : Int) (A0_6 : Option Addr) (c0_6 : Nat) (l0_6 : List (S72)) (A0_7 : Option Addr) (c0_7 : Nat) (l0_7 : List (S72)) (a1 : Int) (A2 : Option Addr) (c2 : Nat) (l2 : List (S72)) (A3 : Option Addr) (c3 : Nat) (l3 : List (S72)) (r1 : Int) (r2 : Bool) (r3 : Bool) (r4 : Int) (r5 : ByteArray) (r6 : Int) (r7 : List (S72)) (r8 : List (S72)) (r9 : Bool) (w : World) (hr0_6 : Kd.C k72 w A0_6 l0_6.length l0_6) (hc0_6 : l0_6.length ≤ c0_6) (hr0_7 : Kd.C k72 w A0_7 l0_7.length l0_7) (hc0_7 : l0_7.length ≤ c0_7) (hr2 : Kd.C k72 w A2 l2.length l2) (hc2 : l2.length ≤ c2) (hr3 : Kd.C k72 w A3 l3.length l3) (hc3 : l3.length ≤ c3) (h : impl_ReplyTo.f k a0_0 a0_1 a0_2 a0_3 a0_4 a0_5 l0_6 l0_7 a1 l2 l3 = some (r1, r2, r3, r4, r5, r6, r7, r8, r9)) (hv_ : Vars w := by exact vv_) :
 Calls Tryz.prog 22 #[.agg #[.int .i64 a0_0, .bool a0_1, .bool a0_2, .int .i64 a0_3, .string a0_4, .int .i64 a0_5, .slice A0_6 l0_6.length c0_6, .slice A0_7 l0_7.length c0_7], .int .i64 a1, .slice A2 l2.length c2, .slice A3 l3.length c3] w fun e w' => ∃ v6_ v7_ : Value, e = .returned (.tuple #[.agg #[.int .i64 r1, .bool r2, .bool r3, .int .i64 r4, .string r5, .int .i64 r6, v6_, v7_], .bool r9]) ∧ Kd.R k72 72 w' w.heap.size (fun k_ => some k_ ≠ (v7_ : Value).ownBlock) v6_ r7 ∧ Kd.R k72 72 w' w.heap.size (fun k_ => some k_ ≠ (v6_ : Value).ownBlock) v7_ r8 ∧ Below w.heap.size w w' := by
 have HV_ := a0_ hv_
 clear hv_
 have hu24 := Tryz.underlying24
 have HR0_6 := a0_ hr0_6
 have HC0_6 := a0_ hc0_6
 clear hr0_6 hc0_6
 have HR0_7 := a0_ hr0_7
 have HC0_7 := a0_ hc0_7
 clear hr0_7 hc0_7
 have HR2 := a0_ hr2
 have HC2 := a0_ hc2
 clear hr2 hc2
 have HR3 := a0_ hr3
 have HC3 := a0_ hc3
 clear hr3 hc3
 have HB := a0_ (Below.refl w.heap.size w)
 have H : ((slices_Clone_rec.f l2).bind fun t341 => ((slices_Clone_rec.f l3).bind fun t344 => ((impl_GoodMessage.f k a0_0 a0_1 a0_2 a0_3 a0_4 a0_5 l0_6 l0_7).bind fun t348 => (if t348 = true then (if a0_1 = true then (some (0, false, false, 0, (⟨#[]⟩ : ByteArray), 0, ([] : List (S72)), ([] : List (S72)), false)) else ((impl_GoodMessage.f k a0_0 true false a1 a0_4 a0_5 t341 t344).bind fun t349 => (if t349 = true then (some (a0_0, true, false, a1, a0_4, a0_5, t341, t344, true)) else (some (0, false, false, 0, (⟨#[]⟩ : ByteArray), 0, ([] : List (S72)), ([] : List (S72)), false))))) else (some (0, false, false, 0, (⟨#[]⟩ : ByteArray), 0, ([] : List (S72)), ([] : List (S72)), false)))))) = some (r1, r2, r3, r4, r5, r6, r7, r8, r9) := h
 clear h
 obtain ⟨t341, A50, H⟩ := Option.bind_eq_some_iff.mp H
 have A5 := a0_ A50
 clear A50
 obtain ⟨t344, A60, H⟩ := Option.bind_eq_some_iff.mp H
 have A6 := a0_ A60
 clear A60
 obtain ⟨t348, A70, H⟩ := Option.bind_eq_some_iff.mp H
 have A7 := a0_ A70
 clear A70
 by_cases c8 : t348 = true
 case neg =>
  replace c8 := Bool.eq_false_iff.mpr c8
  subst c8
  rw [if_neg (show ¬ (false = true) by decide)] at H
  simp only [Option.some.injEq, Prod.mk.injEq] at H
  obtain ⟨rfl, rfl, rfl, rfl, rfl, rfl, rfl, rfl, rfl⟩ := H
  go_enter Tryz.func22, Tryz.ntmps22
  try go_wp2_with (first | ((with_reducible refine gate_dst (N := 4) rfl ?_); refine boxS_ 4 #[.int .i64 a0_0, .bool a0_1, .bool a0_2, .int .i64 a0_3, .string a0_4, .int .i64 a0_5, .slice A0_6 l0_6.length c0_6, .slice A0_7 l0_7.length c0_7] 24 (fun gb339 hg w95 hbox hb => ?_); have n0_ := a0_ (below_step bq0_ hb); have n1_ := a0_ (hbox); have n2_ := a0_ (gw_ hg : w.heap.size ≤ gb339); have n3_ := n2_; clear HB; have HB := n0_; have BK339 := n1_; have GW339 := n2_; have GE339 := n3_; clear n0_ n1_ n2_ n3_; clear hb hbox hg) | ((with_reducible refine gate_dst (N := 8) rfl ?_); refine boxS_ 8 #[.int .i64 0, .bool false, .bool false, .int .i64 0, .string (⟨#[]⟩ : ByteArray), .int .i64 0, .slice none 0 0, .slice none 0 0] 24 (fun gb340 hg w96 hbox hb => ?_); have n0_ := a0_ (bkB_ BK339 hb); have n1_ := a0_ (below_step bq1_ hb); have n2_ := a0_ (hbox); have n3_ := a0_ (gw_ hg (below_size bq1_) : w.heap.size ≤ gb340); have n4_ := n3_; have n5_ := a0_ ((by rw [hg]; exact Nat.ne_of_lt (blk_lt (g := gb339) (o := .cells #[.int .i64 a0_0, .bool a0_1, .bool a0_2, .int .i64 a0_3, .string a0_4, .int .i64 a0_5, .slice A0_6 l0_6.length c0_6, .slice A0_7 l0_7.length c0_7] 24 (0, 0)) (kB_ BK339.out)) : gb339 ≠ gb340)); have n6_ := a0_ ((by rw [hg]; exact Nat.ne_of_gt (blk_lt (g := gb339) (o := .cells #[.int .i64 a0_0, .bool a0_1, .bool a0_2, .int .i64 a0_3, .string a0_4, .int .i64 a0_5, .slice A0_6 l0_6.length c0_6, .slice A0_7 l0_7.length c0_7] 24 (0, 0)) (kB_ BK339.out)) : gb340 ≠ gb339)); clear BK339; clear HB; have BK339 := n0_; have HB := n1_; have BK340 := n2_; have GW340 := n3_; have GE340 := n4_; have NB339_340 := n5_; have NB340_339 := n6_; clear n0_ n1_ n2_ n3_ n4_ n5_ n6_; clear hb hbox hg))
  replace BK339 := a0_ (blk_drew BK339.out)
  replace BK340 := a0_ (blk_drew BK340.out)
  replace HB := a0_ (below_drew1 HB.out)
  refine start_ (n := 14) (S := fun w' => w'.cell? ⟨gb339, 0, none⟩ = some (.int .i64 a0_0) ∧ w'.cell? ⟨gb339, 1, none⟩ = some (.bool a0_1) ∧ w'.cell? ⟨gb339, 2, none⟩ = some (.bool a0_2) ∧ w'.cell? ⟨gb339, 3, none⟩ = some (.int .i64 a0_3) ∧ w'.cell? ⟨gb339, 4, none⟩ = some (.string a0_4) ∧ w'.cell? ⟨gb339, 5, none⟩ = some (.int .i64 a0_5) ∧ w'.cell? ⟨gb339, 6, none⟩ = some (.slice A0_6 l0_6.length c0_6) ∧ w'.cell? ⟨gb339, 7, none⟩ = some (.slice A0_7 l0_7.length c0_7)) (ds := []) #[false, false, false, false, false, false, false, false, false, false, false, false, false, false] (by kernel_rfl) rfl rfl ⟨(blk_cell BK339.out 0).trans rfl, (blk_cell BK339.out 1).trans rfl, (blk_cell BK339.out 2).trans rfl, (blk_cell BK339.out 3).trans rfl, (blk_cell BK339.out 4).trans rfl, (blk_cell BK339.out 5).trans rfl, (blk_cell BK339.out 6).trans rfl, (blk_cell BK339.out 7).trans rfl⟩ (fun hHeld => ?_); refine with_tabW impl_ReplyTo.tab1 impl_ReplyTo.bits1 (fun HT_ HW_ => ?_)
  generalize w96.drew = w97 at BK339 BK340 HB hHeld ⊢
  refine pure_ (i := 0) (N := some 11) (v := ?_) (a' := ?_) #[true, false, false, false, false, false, false, false, false, false, false, false, false, false] rfl rfl (any_of HT_.out (by kernel_rfl)) (fun _ _ _ h => h) (Or.inl ⟨by rfl, ?_⟩) ?_ ?_
  rotate_left
  · intro w'
    go_simp
    with_reducible rfl
  rotate_left
  · simp only [Act.put, List.setIfInBounds_toArray, List.set_cons_zero, List.set_cons_succ, i64_w, i32_w]
    rfl
  refine pure_ (i := 2) (N := some 13) (v := ?_) (a' := ?_) #[true, false, true, false, false, false, false, false, false, false, false, false, false, false] rfl rfl (any_of HT_.out (by kernel_rfl)) (fun _ _ _ h => h) (Or.inl ⟨by rfl, ?_⟩) ?_ ?_
  rotate_left
  · intro w'
    go_simp
    with_reducible rfl
  rotate_left
  · simp only [Act.put, List.setIfInBounds_toArray, List.set_cons_zero, List.set_cons_succ, i64_w, i32_w]
    rfl
  refine pure_ (i := 3) (N := some 14) (v := ?_) (a' := ?_) #[true, false, true, true, false, false, false, false, false, false, false, false, false, false] rfl rfl (any_of HT_.out (by kernel_rfl)) (fun _ _ _ h => h) (Or.inl ⟨by rfl, ?_⟩) ?_ ?_
  rotate_left
  · intro w'
    go_simp
    with_reducible rfl
  rotate_left
  · simp only [Act.put, List.setIfInBounds_toArray, List.set_cons_zero, List.set_cons_succ, i64_w, i32_w]
    rfl
  refine pure_ (i := 5) (N := some 16) (v := ?_) (a' := ?_) #[true, false, true, true, false, true, false, false, false, false, false, false, false, false] rfl rfl (any_of HT_.out (by kernel_rfl)) (fun _ _ _ h => h) (Or.inl ⟨by rfl, ?_⟩) ?_ ?_
  rotate_left
  · intro w'
    go_simp
    with_reducible rfl
  rotate_left
  · simp only [Act.put, List.setIfInBounds_toArray, List.set_cons_zero, List.set_cons_succ, i64_w, i32_w]
    rfl
  refine pure_ (i := 7) (N := some 18) (v := ?_) (a' := ?_) #[true, false, true, true, false, true, false, true, false, false, false, false, false, false] rfl rfl (any_of HT_.out (by kernel_rfl)) (fun _ _ _ h => h) (Or.inl ⟨by rfl, ?_⟩) ?_ ?_
  rotate_left
  · intro w'
    go_simp
    with_reducible rfl
  rotate_left
  · simp only [Act.put, List.setIfInBounds_toArray, List.set_cons_zero, List.set_cons_succ, i64_w, i32_w]
    rfl
  refine pure_ (i := 9) (N := some 20) (v := ?_) (a' := ?_) #[true, false, true, true, false, true, false, true, false, true, false, false, false, false] rfl rfl (any_of HT_.out (by kernel_rfl)) (fun _ _ _ h => h) (Or.inl ⟨by rfl, ?_⟩) ?_ ?_
  rotate_left
  · intro w'
    go_simp
    with_reducible rfl
  rotate_left
  · simp only [Act.put, List.setIfInBounds_toArray, List.set_cons_zero, List.set_cons_succ, i64_w, i32_w]
    rfl
  refine take_ (i := 1) (N := some 12) (v := ?_) (a' := ?_) #[true, true, true, true, false, true, false, true, false, true, false, false, false, false] rfl rfl (take_ofW HT_.out HW_.out (by kernel_rfl)) (fun _ _ _ h => h) (Or.inl ⟨by rfl, ?_⟩) hHeld ?_ ?_
  rotate_left
  · rintro w' ⟨s0, s1, s2, s3, s4, s5, s6, s7⟩
    go_simp
    with_reducible rfl
  rotate_left
  · simp only [Act.put, List.setIfInBounds_toArray, List.set_cons_zero, List.set_cons_succ, i64_w, i32_w]
    rfl
  refine take_ (i := 4) (N := some 15) (v := ?_) (a' := ?_) #[true, true, true, true, true, true, false, true, false, true, false, false, false, false] rfl rfl (take_ofW HT_.out HW_.out (by kernel_rfl)) (fun _ _ _ h => h) (Or.inl ⟨by rfl, ?_⟩) hHeld ?_ ?_
  rotate_left
  · rintro w' ⟨s0, s1, s2, s3, s4, s5, s6, s7⟩
    go_simp
    with_reducible rfl
  rotate_left
  · simp only [Act.put, List.setIfInBounds_toArray, List.set_cons_zero, List.set_cons_succ, i64_w, i32_w]
    rfl
  refine take_ (i := 6) (N := some 17) (v := ?_) (a' := ?_) #[true, true, true, true, true, true, true, true, false, true, false, false, false, false] rfl rfl (take_ofW HT_.out HW_.out (by kernel_rfl)) (fun _ _ _ h => h) (Or.inl ⟨by rfl, ?_⟩) hHeld ?_ ?_
  rotate_left
  · rintro w' ⟨s0, s1, s2, s3, s4, s5, s6, s7⟩
    go_simp
    with_reducible rfl
  rotate_left
  · simp only [Act.put, List.setIfInBounds_toArray, List.set_cons_zero, List.set_cons_succ, i64_w, i32_w]
    rfl
  refine join_ (σ := Value × Value × Nat) 1 #[true, true, true, true, true, true, true, true, true, true, true, true, true, false] (fun s_ => [(19, s_.1), (21, s_.2.1), (10, .pointer (some ⟨s_.2.2, 0, none⟩)), (22, .agg #[.int .i64 a0_0, .bool true, .bool false, .int .i64 a1, .string a0_4, .int .i64 a0_5, s_.1, s_.2.1])]) (fun s_ w' => (w'.cell? ⟨gb339, 0, none⟩ = some (.int .i64 a0_0) ∧ w'.cell? ⟨gb339, 1, none⟩ = some (.bool a0_1) ∧ w'.cell? ⟨gb339, 2, none⟩ = some (.bool a0_2) ∧ w'.cell? ⟨gb339, 3, none⟩ = some (.int .i64 a0_3) ∧ w'.cell? ⟨gb339, 4, none⟩ = some (.string a0_4) ∧ w'.cell? ⟨gb339, 5, none⟩ = some (.int .i64 a0_5) ∧ w'.cell? ⟨gb339, 6, none⟩ = some (.slice A0_6 l0_6.length c0_6) ∧ w'.cell? ⟨gb339, 7, none⟩ = some (.slice A0_7 l0_7.length c0_7)) ∧ (Kd.R k72 72 w' w.heap.size (fun k_ => some k_ ≠ (s_.2.1 : Value).ownBlock) s_.1 t341) ∧ (Kd.R k72 72 w' w.heap.size (fun k_ => some k_ ≠ (s_.1 : Value).ownBlock) s_.2.1 t344) ∧ (w'.heap[gb339]? = some (.cells #[.int .i64 a0_0, .bool a0_1, .bool a0_2, .int .i64 a0_3, .string a0_4, .int .i64 a0_5, .slice A0_6 l0_6.length c0_6, .slice A0_7 l0_7.length c0_7] 24 (0, 0))) ∧ (w'.heap[gb340]? = some (.cells #[.int .i64 0, .bool false, .bool false, .int .i64 0, .string (⟨#[]⟩ : ByteArray), .int .i64 0, .slice none 0 0, .slice none 0 0] 24 (0, 0))) ∧ (w'.heap[s_.2.2]? = some (.cells #[.int .i64 0, .bool false, .bool false, .int .i64 0, .string (⟨#[]⟩ : ByteArray), .int .i64 0, .slice none 0 0, .slice none 0 0] 24 (0, 0))) ∧ (w.heap.size ≤ s_.2.2) ∧ (w.heap.size ≤ s_.2.2) ∧ (gb339 ≠ s_.2.2) ∧ (s_.2.2 ≠ gb339) ∧ (gb340 ≠ s_.2.2) ∧ (s_.2.2 ≠ gb340) ∧ (Below w.heap.size w w')) ?_ ?_
  rotate_left
  · intro hCont
    refine two_ (i := 8) (j := 12) (Ni := some 19) (Nj := some 10) #[true, true, true, true, true, true, true, true, true, true, false, false, false, false] #[true, true, true, true, true, true, true, true, false, true, false, false, true, false] rfl rfl rfl rfl (two_of HT_.out (by kernel_rfl)) (by decide) (by decide) (fun K hK => ?_) (fun K hK => ?_)
    · skip
      refine goes_ Tryz.func52 (by kernel_rfl) rfl #[.slice A2 l2.length c2] (by rfl) rfl rfl argsS_ ?_
      with_reducible refine (slices_Clone_rec.calls _ _ l2 t341 _ ?side1 ?side2 A5.out).mono ?_
      (case side1 => exact kC_ HR2.out HB.out)
      (case side2 => exact HC2.out)
      rintro e w98 ⟨v342, rfl, ho0, hb⟩
      refine ⟨_, rfl, ?_⟩
      have HO343 := a0_ (Kd.R_lower ho0 (below_size bq1_))
      replace BK339 := a0_ (bkB_ BK339 hb)
      replace BK340 := a0_ (bkB_ BK340 hb)
      replace HB := a0_ (below_step bq1_ hb)
      (try clear hb)
      (try clear hb2)
      (try clear hk)
      (try clear hi)
      (try clear ho0)
      refine hK.out _ _ ⟨(blk_cell BK339.out 0).trans rfl, (blk_cell BK339.out 1).trans rfl, (blk_cell BK339.out 2).trans rfl, (blk_cell BK339.out 3).trans rfl, (blk_cell BK339.out 4).trans rfl, (blk_cell BK339.out 5).trans rfl, (blk_cell BK339.out 6).trans rfl, (blk_cell BK339.out 7).trans rfl⟩ (fun hHeld => ?_)
      clear hK K
      refine norm_ (a' := ?_) ?_ ?_
      rotate_left
      · show Act.put _ (some 19) _ = _
        simp only [Act.put, List.setIfInBounds_toArray, List.set_cons_zero, List.set_cons_succ, i64_w, i32_w]
        rfl
      refine two_ (i := 10) (j := 12) (Ni := some 21) (Nj := some 10) #[true, true, true, true, true, true, true, true, true, true, true, false, false, false] #[true, true, true, true, true, true, true, true, true, true, false, false, true, false] rfl rfl rfl rfl (two_of HT_.out (by kernel_rfl)) (by decide) (by decide) (fun K hK => ?_) (fun K hK => ?_)
      · skip
        refine goes_ Tryz.func52 (by kernel_rfl) rfl #[.slice A3 l3.length c3] (by rfl) rfl rfl argsS_ ?_
        with_reducible refine (slices_Clone_rec.calls _ _ l3 t344 _ ?side1 ?side2 A6.out).mono ?_
        (case side1 => exact kC_ HR3.out HB.out)
        (case side2 => exact HC3.out)
        rintro e w99 ⟨v345, rfl, ho0, hb⟩
        refine ⟨_, rfl, ?_⟩
        have n0_ := a0_ (Kd.R_elder' (kR_ HO343.out) (Kd.R_base ho0) hb)
        have n1_ := a0_ (Kd.R_lower (Kd.R_new' ho0 (Kd.R_lt (kR_ HO343.out))) (below_size bq1_))
        have n2_ := a0_ (bkB_ BK339 hb)
        have n3_ := a0_ (bkB_ BK340 hb)
        have n4_ := a0_ (below_step bq1_ hb)
        clear HO343
        clear BK339
        clear BK340
        clear HB
        have HO343 := n0_
        have HO346 := n1_
        have BK339 := n2_
        have BK340 := n3_
        have HB := n4_
        clear n0_ n1_ n2_ n3_ n4_
        (try clear hb)
        (try clear hb2)
        (try clear hk)
        (try clear hi)
        (try clear ho0)
        obtain ⟨Ao100, co100, eo100⟩ := Kd.R_slice HO346.out
        (first | subst eo100 | (injection eo100 with f1_ f2_ f3_; have f4_ := f1_.symm; have f5_ := f3_.symm; clear f1_ f2_ f3_; subst f4_; subst f5_))
        obtain ⟨Ao101, co101, eo101⟩ := Kd.R_slice HO343.out
        (first | subst eo101 | (injection eo101 with f1_ f2_ f3_; have f4_ := f1_.symm; have f5_ := f3_.symm; clear f1_ f2_ f3_; subst f4_; subst f5_))
        refine hK.out _ _ ⟨(blk_cell BK339.out 0).trans rfl, (blk_cell BK339.out 1).trans rfl, (blk_cell BK339.out 2).trans rfl, (blk_cell BK339.out 3).trans rfl, (blk_cell BK339.out 4).trans rfl, (blk_cell BK339.out 5).trans rfl, (blk_cell BK339.out 6).trans rfl, (blk_cell BK339.out 7).trans rfl⟩ (fun hHeld => ?_)
        clear hK K
        refine norm_ (a' := ?_) ?_ ?_
        rotate_left
        · show Act.put _ (some 21) _ = _
          simp only [Act.put, List.setIfInBounds_toArray, List.set_cons_zero, List.set_cons_succ, i64_w, i32_w]
          rfl
        refine pure_ (i := 11) (N := some 22) (v := ?_) (a' := ?_) #[true, true, true, true, true, true, true, true, true, true, true, true, false, false] rfl rfl (any_of HT_.out (by kernel_rfl)) (fun _ _ _ h => h) (Or.inl ⟨by rfl, ?_⟩) ?_ ?_
        rotate_left
        · intro w'
          go_simp
          with_reducible rfl
        rotate_left
        · simp only [Act.put, List.setIfInBounds_toArray, List.set_cons_zero, List.set_cons_succ, i64_w, i32_w]
          rfl
        refine one_ (i := 12) (N := some 10) #[true, true, true, true, true, true, true, true, true, true, true, true, true, false] rfl rfl (one_of HT_.out (by kernel_rfl)) (by decide) (fun K hK => ?_)
        refine box_step ?hg (N := 10) ?hd (cs := #[.int .i64 0, .bool false, .bool false, .int .i64 0, .string (⟨#[]⟩ : ByteArray), .int .i64 0, .slice none 0 0, .slice none 0 0]) (t := 24) ?hr ?_; (case hd => rfl); (case hg => rfl); (case hr => first | (go_simp; done) | (go_simp; rfl))
        intro gb347 hg w102 hbox hb
        have n0_ := a0_ (Kd.R_below (kR_ HO343.out) hb)
        have n1_ := a0_ (Kd.R_below (kR_ HO346.out) hb)
        have n2_ := a0_ (bkB_ BK339 hb)
        have n3_ := a0_ (bkB_ BK340 hb)
        have n4_ := a0_ (below_step bq1_ hb)
        have n5_ := a0_ (hbox)
        have n6_ := a0_ ((by rw [hg]; exact (below_size bq1_) : w.heap.size ≤ gb347))
        have n7_ := a0_ ((by rw [hg]; exact (below_size bq1_) : w.heap.size ≤ gb347))
        have n8_ := a0_ ((by rw [hg]; exact Nat.ne_of_lt (blk_lt (g := gb339) (o := .cells #[.int .i64 a0_0, .bool a0_1, .bool a0_2, .int .i64 a0_3, .string a0_4, .int .i64 a0_5, .slice A0_6 l0_6.length c0_6, .slice A0_7 l0_7.length c0_7] 24 (0, 0)) (kB_ BK339.out)) : gb339 ≠ gb347))
        have n9_ := a0_ ((by rw [hg]; exact Nat.ne_of_gt (blk_lt (g := gb339) (o := .cells #[.int .i64 a0_0, .bool a0_1, .bool a0_2, .int .i64 a0_3, .string a0_4, .int .i64 a0_5, .slice A0_6 l0_6.length c0_6, .slice A0_7 l0_7.length c0_7] 24 (0, 0)) (kB_ BK339.out)) : gb347 ≠ gb339))
        have n10_ := a0_ ((by rw [hg]; exact Nat.ne_of_lt (blk_lt (g := gb340) (o := .cells #[.int .i64 0, .bool false, .bool false, .int .i64 0, .string (⟨#[]⟩ : ByteArray), .int .i64 0, .slice none 0 0, .slice none 0 0] 24 (0, 0)) (kB_ BK340.out)) : gb340 ≠ gb347))
        have n11_ := a0_ ((by rw [hg]; exact Nat.ne_of_gt (blk_lt (g := gb340) (o := .cells #[.int .i64 0, .bool false, .bool false, .int .i64 0, .string (⟨#[]⟩ : ByteArray), .int .i64 0, .slice none 0 0, .slice none 0 0] 24 (0, 0)) (kB_ BK340.out)) : gb347 ≠ gb340))
        clear HO343
        clear HO346
        clear BK339
        clear BK340
        clear HB
        have HO343 := n0_
        have HO346 := n1_
        have BK339 := n2_
        have BK340 := n3_
        have HB := n4_
        have BK347 := n5_
        have GW347 := n6_
        have GE347 := n7_
        have NB339_347 := n8_
        have NB347_339 := n9_
        have NB340_347 := n10_
        have NB347_340 := n11_
        clear n0_ n1_ n2_ n3_ n4_ n5_ n6_ n7_ n8_ n9_ n10_ n11_
        clear hb hbox hg
        refine hK.out _ _ ⟨(blk_cell BK339.out 0).trans rfl, (blk_cell BK339.out 1).trans rfl, (blk_cell BK339.out 2).trans rfl, (blk_cell BK339.out 3).trans rfl, (blk_cell BK339.out 4).trans rfl, (blk_cell BK339.out 5).trans rfl, (blk_cell BK339.out 6).trans rfl, (blk_cell BK339.out 7).trans rfl⟩ (fun hHeld => ?_)
        clear hK K
        refine norm_ (a' := ?_) ?_ ?_
        rotate_left
        · show Act.put _ (some 10) _ = _
          simp only [Act.put, List.setIfInBounds_toArray, List.set_cons_zero, List.set_cons_succ, i64_w, i32_w]
          rfl
        exact norm_ (by simp only [putAll, Act.put, List.setIfInBounds_toArray, List.set_cons_zero, List.set_cons_succ]) (hCont (.slice Ao101 t341.length co101, .slice Ao100 t344.length co100, gb347) _ ⟨hHeld, (kR_ (Kd.R_mono HO343.out (fun _ hk => hk.2))), (kR_ (Kd.R_mono HO346.out (fun _ hk => hk.2))), (kB_ BK339.out), (kB_ BK340.out), (kB_ BK347.out), GW347.out, GE347.out, NB339_347.out, NB347_339.out, NB340_347.out, NB347_340.out, bq1_⟩)
      · skip
        refine box_step ?hg (N := 10) ?hd (cs := #[.int .i64 0, .bool false, .bool false, .int .i64 0, .string (⟨#[]⟩ : ByteArray), .int .i64 0, .slice none 0 0, .slice none 0 0]) (t := 24) ?hr ?_; (case hd => rfl); (case hg => rfl); (case hr => first | (go_simp; done) | (go_simp; rfl))
        intro gb347 hg w99 hbox hb
        have n0_ := a0_ (Kd.R_below (kR_ HO343.out) hb)
        have n1_ := a0_ (bkB_ BK339 hb)
        have n2_ := a0_ (bkB_ BK340 hb)
        have n3_ := a0_ (below_step bq1_ hb)
        have n4_ := a0_ (hbox)
        have n5_ := a0_ ((by rw [hg]; exact (below_size bq1_) : w.heap.size ≤ gb347))
        have n6_ := a0_ ((by rw [hg]; exact (below_size bq1_) : w.heap.size ≤ gb347))
        have n7_ := a0_ ((by rw [hg]; exact Nat.ne_of_lt (blk_lt (g := gb339) (o := .cells #[.int .i64 a0_0, .bool a0_1, .bool a0_2, .int .i64 a0_3, .string a0_4, .int .i64 a0_5, .slice A0_6 l0_6.length c0_6, .slice A0_7 l0_7.length c0_7] 24 (0, 0)) (kB_ BK339.out)) : gb339 ≠ gb347))
        have n8_ := a0_ ((by rw [hg]; exact Nat.ne_of_gt (blk_lt (g := gb339) (o := .cells #[.int .i64 a0_0, .bool a0_1, .bool a0_2, .int .i64 a0_3, .string a0_4, .int .i64 a0_5, .slice A0_6 l0_6.length c0_6, .slice A0_7 l0_7.length c0_7] 24 (0, 0)) (kB_ BK339.out)) : gb347 ≠ gb339))
        have n9_ := a0_ ((by rw [hg]; exact Nat.ne_of_lt (blk_lt (g := gb340) (o := .cells #[.int .i64 0, .bool false, .bool false, .int .i64 0, .string (⟨#[]⟩ : ByteArray), .int .i64 0, .slice none 0 0, .slice none 0 0] 24 (0, 0)) (kB_ BK340.out)) : gb340 ≠ gb347))
        have n10_ := a0_ ((by rw [hg]; exact Nat.ne_of_gt (blk_lt (g := gb340) (o := .cells #[.int .i64 0, .bool false, .bool false, .int .i64 0, .string (⟨#[]⟩ : ByteArray), .int .i64 0, .slice none 0 0, .slice none 0 0] 24 (0, 0)) (kB_ BK340.out)) : gb347 ≠ gb340))
        clear HO343
        clear BK339
        clear BK340
        clear HB
        have HO343 := n0_
        have BK339 := n1_
        have BK340 := n2_
        have HB := n3_
        have BK347 := n4_
        have GW347 := n5_
        have GE347 := n6_
        have NB339_347 := n7_
        have NB347_339 := n8_
        have NB340_347 := n9_
        have NB347_340 := n10_
        clear n0_ n1_ n2_ n3_ n4_ n5_ n6_ n7_ n8_ n9_ n10_
        clear hb hbox hg
        refine hK.out _ _ ⟨(blk_cell BK339.out 0).trans rfl, (blk_cell BK339.out 1).trans rfl, (blk_cell BK339.out 2).trans rfl, (blk_cell BK339.out 3).trans rfl, (blk_cell BK339.out 4).trans rfl, (blk_cell BK339.out 5).trans rfl, (blk_cell BK339.out 6).trans rfl, (blk_cell BK339.out 7).trans rfl⟩ (fun hHeld => ?_)
        clear hK K
        refine norm_ (a' := ?_) ?_ ?_
        rotate_left
        · show Act.put _ (some 10) _ = _
          simp only [Act.put, List.setIfInBounds_toArray, List.set_cons_zero, List.set_cons_succ, i64_w, i32_w]
          rfl
        refine one_ (i := 10) (N := some 21) #[true, true, true, true, true, true, true, true, true, true, true, false, true, false] rfl rfl (one_of HT_.out (by kernel_rfl)) (by decide) (fun K hK => ?_)
        refine goes_ Tryz.func52 (by kernel_rfl) rfl #[.slice A3 l3.length c3] (by rfl) rfl rfl argsS_ ?_
        with_reducible refine (slices_Clone_rec.calls _ _ l3 t344 _ ?side1 ?side2 A6.out).mono ?_
        (case side1 => exact kC_ HR3.out HB.out)
        (case side2 => exact HC3.out)
        rintro e w100 ⟨v345, rfl, ho0, hb⟩
        refine ⟨_, rfl, ?_⟩
        have n0_ := a0_ (Kd.R_elder' (kR_ HO343.out) (Kd.R_base ho0) hb)
        have n1_ := a0_ (Kd.R_lower (Kd.R_new' ho0 (Kd.R_lt (kR_ HO343.out))) (below_size bq1_))
        have n2_ := a0_ (bkB_ BK339 hb)
        have n3_ := a0_ (bkB_ BK340 hb)
        have n4_ := a0_ (bkB_ BK347 hb)
        have n5_ := a0_ (below_step bq1_ hb)
        clear HO343
        clear BK339
        clear BK340
        clear BK347
        clear HB
        have HO343 := n0_
        have HO346 := n1_
        have BK339 := n2_
        have BK340 := n3_
        have BK347 := n4_
        have HB := n5_
        clear n0_ n1_ n2_ n3_ n4_ n5_
        (try clear hb)
        (try clear hb2)
        (try clear hk)
        (try clear hi)
        (try clear ho0)
        obtain ⟨Ao101, co101, eo101⟩ := Kd.R_slice HO346.out
        (first | subst eo101 | (injection eo101 with f1_ f2_ f3_; have f4_ := f1_.symm; have f5_ := f3_.symm; clear f1_ f2_ f3_; subst f4_; subst f5_))
        obtain ⟨Ao102, co102, eo102⟩ := Kd.R_slice HO343.out
        (first | subst eo102 | (injection eo102 with f1_ f2_ f3_; have f4_ := f1_.symm; have f5_ := f3_.symm; clear f1_ f2_ f3_; subst f4_; subst f5_))
        refine hK.out _ _ ⟨(blk_cell BK339.out 0).trans rfl, (blk_cell BK339.out 1).trans rfl, (blk_cell BK339.out 2).trans rfl, (blk_cell BK339.out 3).trans rfl, (blk_cell BK339.out 4).trans rfl, (blk_cell BK339.out 5).trans rfl, (blk_cell BK339.out 6).trans rfl, (blk_cell BK339.out 7).trans rfl⟩ (fun hHeld => ?_)
        clear hK K
        refine norm_ (a' := ?_) ?_ ?_
        rotate_left
        · show Act.put _ (some 21) _ = _
          simp only [Act.put, List.setIfInBounds_toArray, List.set_cons_zero, List.set_cons_succ, i64_w, i32_w]
          rfl
        refine pure_ (i := 11) (N := some 22) (v := ?_) (a' := ?_) #[true, true, true, true, true, true, true, true, true, true, true, true, true, false] rfl rfl (any_of HT_.out (by kernel_rfl)) (fun _ _ _ h => h) (Or.inl ⟨by rfl, ?_⟩) ?_ ?_
        rotate_left
        · intro w'
          go_simp
          with_reducible rfl
        rotate_left
        · simp only [Act.put, List.setIfInBounds_toArray, List.set_cons_zero, List.set_cons_succ, i64_w, i32_w]
          rfl
        exact norm_ (by simp only [putAll, Act.put, List.setIfInBounds_toArray, List.set_cons_zero, List.set_cons_succ]) (hCont (.slice Ao102 t341.length co102, .slice Ao101 t344.length co101, gb347) _ ⟨hHeld, (kR_ (Kd.R_mono HO343.out (fun _ hk => hk.2))), (kR_ (Kd.R_mono HO346.out (fun _ hk => hk.2))), (kB_ BK339.out), (kB_ BK340.out), (kB_ BK347.out), GW347.out, GE347.out, NB339_347.out, NB347_339.out, NB340_347.out, NB347_340.out, bq1_⟩)
    · skip
      refine box_step ?hg (N := 10) ?hd (cs := #[.int .i64 0, .bool false, .bool false, .int .i64 0, .string (⟨#[]⟩ : ByteArray), .int .i64 0, .slice none 0 0, .slice none 0 0]) (t := 24) ?hr ?_; (case hd => rfl); (case hg => rfl); (case hr => first | (go_simp; done) | (go_simp; rfl))
      intro gb347 hg w98 hbox hb
      have n0_ := a0_ (bkB_ BK339 hb)
      have n1_ := a0_ (bkB_ BK340 hb)
      have n2_ := a0_ (below_step bq1_ hb)
      have n3_ := a0_ (hbox)
      have n4_ := a0_ ((by rw [hg]; exact (below_size bq1_) : w.heap.size ≤ gb347))
      have n5_ := a0_ ((by rw [hg]; exact (below_size bq1_) : w.heap.size ≤ gb347))
      have n6_ := a0_ ((by rw [hg]; exact Nat.ne_of_lt (blk_lt (g := gb339) (o := .cells #[.int .i64 a0_0, .bool a0_1, .bool a0_2, .int .i64 a0_3, .string a0_4, .int .i64 a0_5, .slice A0_6 l0_6.length c0_6, .slice A0_7 l0_7.length c0_7] 24 (0, 0)) (kB_ BK339.out)) : gb339 ≠ gb347))
      have n7_ := a0_ ((by rw [hg]; exact Nat.ne_of_gt (blk_lt (g := gb339) (o := .cells #[.int .i64 a0_0, .bool a0_1, .bool a0_2, .int .i64 a0_3, .string a0_4, .int .i64 a0_5, .slice A0_6 l0_6.length c0_6, .slice A0_7 l0_7.length c0_7] 24 (0, 0)) (kB_ BK339.out)) : gb347 ≠ gb339))
      have n8_ := a0_ ((by rw [hg]; exact Nat.ne_of_lt (blk_lt (g := gb340) (o := .cells #[.int .i64 0, .bool false, .bool false, .int .i64 0, .string (⟨#[]⟩ : ByteArray), .int .i64 0, .slice none 0 0, .slice none 0 0] 24 (0, 0)) (kB_ BK340.out)) : gb340 ≠ gb347))
      have n9_ := a0_ ((by rw [hg]; exact Nat.ne_of_gt (blk_lt (g := gb340) (o := .cells #[.int .i64 0, .bool false, .bool false, .int .i64 0, .string (⟨#[]⟩ : ByteArray), .int .i64 0, .slice none 0 0, .slice none 0 0] 24 (0, 0)) (kB_ BK340.out)) : gb347 ≠ gb340))
      clear BK339
      clear BK340
      clear HB
      have BK339 := n0_
      have BK340 := n1_
      have HB := n2_
      have BK347 := n3_
      have GW347 := n4_
      have GE347 := n5_
      have NB339_347 := n6_
      have NB347_339 := n7_
      have NB340_347 := n8_
      have NB347_340 := n9_
      clear n0_ n1_ n2_ n3_ n4_ n5_ n6_ n7_ n8_ n9_
      clear hb hbox hg
      refine hK.out _ _ ⟨(blk_cell BK339.out 0).trans rfl, (blk_cell BK339.out 1).trans rfl, (blk_cell BK339.out 2).trans rfl, (blk_cell BK339.out 3).trans rfl, (blk_cell BK339.out 4).trans rfl, (blk_cell BK339.out 5).trans rfl, (blk_cell BK339.out 6).trans rfl, (blk_cell BK339.out 7).trans rfl⟩ (fun hHeld => ?_)
      clear hK K
      refine norm_ (a' := ?_) ?_ ?_
      rotate_left
      · show Act.put _ (some 10) _ = _
        simp only [Act.put, List.setIfInBounds_toArray, List.set_cons_zero, List.set_cons_succ, i64_w, i32_w]
        rfl
      refine one_ (i := 8) (N := some 19) #[true, true, true, true, true, true, true, true, true, true, false, false, true, false] rfl rfl (one_of HT_.out (by kernel_rfl)) (by decide) (fun K hK => ?_)
      refine goes_ Tryz.func52 (by kernel_rfl) rfl #[.slice A2 l2.length c2] (by rfl) rfl rfl argsS_ ?_
      with_reducible refine (slices_Clone_rec.calls _ _ l2 t341 _ ?side1 ?side2 A5.out).mono ?_
      (case side1 => exact kC_ HR2.out HB.out)
      (case side2 => exact HC2.out)
      rintro e w99 ⟨v342, rfl, ho0, hb⟩
      refine ⟨_, rfl, ?_⟩
      have HO343 := a0_ (Kd.R_lower ho0 (below_size bq1_))
      replace BK339 := a0_ (bkB_ BK339 hb)
      replace BK340 := a0_ (bkB_ BK340 hb)
      replace BK347 := a0_ (bkB_ BK347 hb)
      replace HB := a0_ (below_step bq1_ hb)
      (try clear hb)
      (try clear hb2)
      (try clear hk)
      (try clear hi)
      (try clear ho0)
      refine hK.out _ _ ⟨(blk_cell BK339.out 0).trans rfl, (blk_cell BK339.out 1).trans rfl, (blk_cell BK339.out 2).trans rfl, (blk_cell BK339.out 3).trans rfl, (blk_cell BK339.out 4).trans rfl, (blk_cell BK339.out 5).trans rfl, (blk_cell BK339.out 6).trans rfl, (blk_cell BK339.out 7).trans rfl⟩ (fun hHeld => ?_)
      clear hK K
      refine norm_ (a' := ?_) ?_ ?_
      rotate_left
      · show Act.put _ (some 19) _ = _
        simp only [Act.put, List.setIfInBounds_toArray, List.set_cons_zero, List.set_cons_succ, i64_w, i32_w]
        rfl
      refine one_ (i := 10) (N := some 21) #[true, true, true, true, true, true, true, true, true, true, true, false, true, false] rfl rfl (one_of HT_.out (by kernel_rfl)) (by decide) (fun K hK => ?_)
      refine goes_ Tryz.func52 (by kernel_rfl) rfl #[.slice A3 l3.length c3] (by rfl) rfl rfl argsS_ ?_
      with_reducible refine (slices_Clone_rec.calls _ _ l3 t344 _ ?side1 ?side2 A6.out).mono ?_
      (case side1 => exact kC_ HR3.out HB.out)
      (case side2 => exact HC3.out)
      rintro e w100 ⟨v345, rfl, ho0, hb⟩
      refine ⟨_, rfl, ?_⟩
      have n0_ := a0_ (Kd.R_elder' (kR_ HO343.out) (Kd.R_base ho0) hb)
      have n1_ := a0_ (Kd.R_lower (Kd.R_new' ho0 (Kd.R_lt (kR_ HO343.out))) (below_size bq1_))
      have n2_ := a0_ (bkB_ BK339 hb)
      have n3_ := a0_ (bkB_ BK340 hb)
      have n4_ := a0_ (bkB_ BK347 hb)
      have n5_ := a0_ (below_step bq1_ hb)
      clear HO343
      clear BK339
      clear BK340
      clear BK347
      clear HB
      have HO343 := n0_
      have HO346 := n1_
      have BK339 := n2_
      have BK340 := n3_
      have BK347 := n4_
      have HB := n5_
      clear n0_ n1_ n2_ n3_ n4_ n5_
      (try clear hb)
      (try clear hb2)
      (try clear hk)
      (try clear hi)
      (try clear ho0)
      obtain ⟨Ao101, co101, eo101⟩ := Kd.R_slice HO346.out
      (first | subst eo101 | (injection eo101 with f1_ f2_ f3_; have f4_ := f1_.symm; have f5_ := f3_.symm; clear f1_ f2_ f3_; subst f4_; subst f5_))
      obtain ⟨Ao102, co102, eo102⟩ := Kd.R_slice HO343.out
      (first | subst eo102 | (injection eo102 with f1_ f2_ f3_; have f4_ := f1_.symm; have f5_ := f3_.symm; clear f1_ f2_ f3_; subst f4_; subst f5_))
      refine hK.out _ _ ⟨(blk_cell BK339.out 0).trans rfl, (blk_cell BK339.out 1).trans rfl, (blk_cell BK339.out 2).trans rfl, (blk_cell BK339.out 3).trans rfl, (blk_cell BK339.out 4).trans rfl, (blk_cell BK339.out 5).trans rfl, (blk_cell BK339.out 6).trans rfl, (blk_cell BK339.out 7).trans rfl⟩ (fun hHeld => ?_)
      clear hK K
      refine norm_ (a' := ?_) ?_ ?_
      rotate_left
      · show Act.put _ (some 21) _ = _
        simp only [Act.put, List.setIfInBounds_toArray, List.set_cons_zero, List.set_cons_succ, i64_w, i32_w]
        rfl
      refine pure_ (i := 11) (N := some 22) (v := ?_) (a' := ?_) #[true, true, true, true, true, true, true, true, true, true, true, true, true, false] rfl rfl (any_of HT_.out (by kernel_rfl)) (fun _ _ _ h => h) (Or.inl ⟨by rfl, ?_⟩) ?_ ?_
      rotate_left
      · intro w'
        go_simp
        with_reducible rfl
      rotate_left
      · simp only [Act.put, List.setIfInBounds_toArray, List.set_cons_zero, List.set_cons_succ, i64_w, i32_w]
        rfl
      exact norm_ (by simp only [putAll, Act.put, List.setIfInBounds_toArray, List.set_cons_zero, List.set_cons_succ]) (hCont (.slice Ao102 t341.length co102, .slice Ao101 t344.length co101, gb347) _ ⟨hHeld, (kR_ (Kd.R_mono HO343.out (fun _ hk => hk.2))), (kR_ (Kd.R_mono HO346.out (fun _ hk => hk.2))), (kB_ BK339.out), (kB_ BK340.out), (kB_ BK347.out), GW347.out, GE347.out, NB339_347.out, NB347_339.out, NB340_347.out, NB347_340.out, bq1_⟩)
  rintro ⟨v342, v345, gb347⟩ w103 ⟨hS_, h0_, h1_, h2_, h3_, h4_, h5_, h6_, h7_, h8_, h9_, h10_, h11_⟩
  have n0_ : Aside0 (Kd.R k72 72 w103 w.heap.size (fun k_ => some k_ ≠ (v345 : Value).ownBlock) v342 t341) := ⟨h0_⟩
  have n1_ : Aside0 (Kd.R k72 72 w103 w.heap.size (fun k_ => some k_ ≠ (v342 : Value).ownBlock) v345 t344) := ⟨h1_⟩
  have n2_ : Aside0 (w103.heap[gb339]? = some (.cells #[.int .i64 a0_0, .bool a0_1, .bool a0_2, .int .i64 a0_3, .string a0_4, .int .i64 a0_5, .slice A0_6 l0_6.length c0_6, .slice A0_7 l0_7.length c0_7] 24 (0, 0))) := ⟨h2_⟩
  have n3_ : Aside0 (w103.heap[gb340]? = some (.cells #[.int .i64 0, .bool false, .bool false, .int .i64 0, .string (⟨#[]⟩ : ByteArray), .int .i64 0, .slice none 0 0, .slice none 0 0] 24 (0, 0))) := ⟨h3_⟩
  have n4_ : Aside0 (w103.heap[gb347]? = some (.cells #[.int .i64 0, .bool false, .bool false, .int .i64 0, .string (⟨#[]⟩ : ByteArray), .int .i64 0, .slice none 0 0, .slice none 0 0] 24 (0, 0))) := ⟨h4_⟩
  have n5_ : Aside0 (w.heap.size ≤ gb347) := ⟨h5_⟩
  have n6_ : Aside0 (w.heap.size ≤ gb347) := ⟨h6_⟩
  have n7_ : Aside0 (gb339 ≠ gb347) := ⟨h7_⟩
  have n8_ : Aside0 (gb347 ≠ gb339) := ⟨h8_⟩
  have n9_ : Aside0 (gb340 ≠ gb347) := ⟨h9_⟩
  have n10_ : Aside0 (gb347 ≠ gb340) := ⟨h10_⟩
  have n11_ : Aside0 (Below w.heap.size w w103) := ⟨h11_⟩
  clear BK339
  clear BK340
  clear HB
  clear h0_ h1_ h2_ h3_ h4_ h5_ h6_ h7_ h8_ h9_ h10_ h11_
  have HO343 := n0_
  have HO346 := n1_
  have BK339 := n2_
  have BK340 := n3_
  have BK347 := n4_
  have GW347 := n5_
  have GE347 := n6_
  have NB339_347 := n7_
  have NB347_339 := n8_
  have NB340_347 := n9_
  have NB347_340 := n10_
  have HB := n11_
  clear n0_ n1_ n2_ n3_ n4_ n5_ n6_ n7_ n8_ n9_ n10_ n11_
  have hHeld : w103.cell? ⟨gb339, 0, none⟩ = some (.int .i64 a0_0) ∧ w103.cell? ⟨gb339, 1, none⟩ = some (.bool a0_1) ∧ w103.cell? ⟨gb339, 2, none⟩ = some (.bool a0_2) ∧ w103.cell? ⟨gb339, 3, none⟩ = some (.int .i64 a0_3) ∧ w103.cell? ⟨gb339, 4, none⟩ = some (.string a0_4) ∧ w103.cell? ⟨gb339, 5, none⟩ = some (.int .i64 a0_5) ∧ w103.cell? ⟨gb339, 6, none⟩ = some (.slice A0_6 l0_6.length c0_6) ∧ w103.cell? ⟨gb339, 7, none⟩ = some (.slice A0_7 l0_7.length c0_7) := hS_
  obtain ⟨Ao104, co104, eo104⟩ := Kd.R_slice HO346.out
  (first | subst eo104 | (injection eo104 with f1_ f2_ f3_; have f4_ := f1_.symm; have f5_ := f3_.symm; clear f1_ f2_ f3_; subst f4_; subst f5_))
  obtain ⟨Ao105, co105, eo105⟩ := Kd.R_slice HO343.out
  (first | subst eo105 | (injection eo105 with f1_ f2_ f3_; have f4_ := f1_.symm; have f5_ := f3_.symm; clear f1_ f2_ f3_; subst f4_; subst f5_))
  refine norm_ (a' := ?_) ?_ ?_
  rotate_left
  · simp only [putAll, Act.put, List.setIfInBounds_toArray, List.set_cons_zero, List.set_cons_succ]
    rfl
  refine one_ (i := 13) (N := none) #[true, true, true, true, true, true, true, true, true, true, true, true, true, true] rfl rfl (one_of HT_.out (by kernel_rfl)) (by decide) (fun K hK => ?_)
  have hs106 : w103.cell? ⟨gb347, 0, none⟩ = some (.int .i64 0) := (blk_cell BK347.out 0).trans rfl
  have hfs106 := blk_frozen BK347.out 0
  have hns106_0 := NB339_347.out
  have hns106_1 := NB340_347.out
  have hms106_0 := NB347_339.out
  have hms106_1 := NB347_340.out
  have hs107 : w103.cell? ⟨gb347, 1, none⟩ = some (.bool false) := (blk_cell BK347.out 1).trans rfl
  have hfs107 := blk_frozen BK347.out 1
  have hns107_0 := NB339_347.out
  have hns107_1 := NB340_347.out
  have hms107_0 := NB347_339.out
  have hms107_1 := NB347_340.out
  have hs108 : w103.cell? ⟨gb347, 2, none⟩ = some (.bool false) := (blk_cell BK347.out 2).trans rfl
  have hfs108 := blk_frozen BK347.out 2
  have hns108_0 := NB339_347.out
  have hns108_1 := NB340_347.out
  have hms108_0 := NB347_339.out
  have hms108_1 := NB347_340.out
  have hs109 : w103.cell? ⟨gb347, 3, none⟩ = some (.int .i64 0) := (blk_cell BK347.out 3).trans rfl
  have hfs109 := blk_frozen BK347.out 3
  have hns109_0 := NB339_347.out
  have hns109_1 := NB340_347.out
  have hms109_0 := NB347_339.out
  have hms109_1 := NB347_340.out
  have hs110 : w103.cell? ⟨gb347, 4, none⟩ = some (.string (⟨#[]⟩ : ByteArray)) := (blk_cell BK347.out 4).trans rfl
  have hfs110 := blk_frozen BK347.out 4
  have hns110_0 := NB339_347.out
  have hns110_1 := NB340_347.out
  have hms110_0 := NB347_339.out
  have hms110_1 := NB347_340.out
  have hs111 : w103.cell? ⟨gb347, 5, none⟩ = some (.int .i64 0) := (blk_cell BK347.out 5).trans rfl
  have hfs111 := blk_frozen BK347.out 5
  have hns111_0 := NB339_347.out
  have hns111_1 := NB340_347.out
  have hms111_0 := NB347_339.out
  have hms111_1 := NB347_340.out
  have hs112 : w103.cell? ⟨gb347, 6, none⟩ = some (.slice none 0 0) := (blk_cell BK347.out 6).trans rfl
  have hfs112 := blk_frozen BK347.out 6
  have hns112_0 := NB339_347.out
  have hns112_1 := NB340_347.out
  have hms112_0 := NB347_339.out
  have hms112_1 := NB347_340.out
  have hs113 : w103.cell? ⟨gb347, 7, none⟩ = some (.slice none 0 0) := (blk_cell BK347.out 7).trans rfl
  have hfs113 := blk_frozen BK347.out 7
  have hns113_0 := NB339_347.out
  have hns113_1 := NB340_347.out
  have hms113_0 := NB347_339.out
  have hms113_1 := NB347_340.out
  refine skip_ (w1 := ?_) (by rfl) rfl ?_ ?_
  rotate_left
  · go_simp
    rfl
  refine hK.out _ _ ⟨((cell_far (p := ⟨gb347, _, none⟩) NB339_347.out _).trans (((cell_far (p := ⟨gb347, _, none⟩) NB339_347.out _).trans (((cell_far (p := ⟨gb347, _, none⟩) NB339_347.out _).trans (((cell_far (p := ⟨gb347, _, none⟩) NB339_347.out _).trans (((cell_far (p := ⟨gb347, _, none⟩) NB339_347.out _).trans (((cell_far (p := ⟨gb347, _, none⟩) NB339_347.out _).trans (((cell_far (p := ⟨gb347, _, none⟩) NB339_347.out _).trans (((cell_far (p := ⟨gb347, _, none⟩) NB339_347.out _).trans (hHeld.1)))))))))))))))), ((cell_far (p := ⟨gb347, _, none⟩) NB339_347.out _).trans (((cell_far (p := ⟨gb347, _, none⟩) NB339_347.out _).trans (((cell_far (p := ⟨gb347, _, none⟩) NB339_347.out _).trans (((cell_far (p := ⟨gb347, _, none⟩) NB339_347.out _).trans (((cell_far (p := ⟨gb347, _, none⟩) NB339_347.out _).trans (((cell_far (p := ⟨gb347, _, none⟩) NB339_347.out _).trans (((cell_far (p := ⟨gb347, _, none⟩) NB339_347.out _).trans (((cell_far (p := ⟨gb347, _, none⟩) NB339_347.out _).trans (hHeld.2.1)))))))))))))))), ((cell_far (p := ⟨gb347, _, none⟩) NB339_347.out _).trans (((cell_far (p := ⟨gb347, _, none⟩) NB339_347.out _).trans (((cell_far (p := ⟨gb347, _, none⟩) NB339_347.out _).trans (((cell_far (p := ⟨gb347, _, none⟩) NB339_347.out _).trans (((cell_far (p := ⟨gb347, _, none⟩) NB339_347.out _).trans (((cell_far (p := ⟨gb347, _, none⟩) NB339_347.out _).trans (((cell_far (p := ⟨gb347, _, none⟩) NB339_347.out _).trans (((cell_far (p := ⟨gb347, _, none⟩) NB339_347.out _).trans (hHeld.2.2.1)))))))))))))))), ((cell_far (p := ⟨gb347, _, none⟩) NB339_347.out _).trans (((cell_far (p := ⟨gb347, _, none⟩) NB339_347.out _).trans (((cell_far (p := ⟨gb347, _, none⟩) NB339_347.out _).trans (((cell_far (p := ⟨gb347, _, none⟩) NB339_347.out _).trans (((cell_far (p := ⟨gb347, _, none⟩) NB339_347.out _).trans (((cell_far (p := ⟨gb347, _, none⟩) NB339_347.out _).trans (((cell_far (p := ⟨gb347, _, none⟩) NB339_347.out _).trans (((cell_far (p := ⟨gb347, _, none⟩) NB339_347.out _).trans (hHeld.2.2.2.1)))))))))))))))), ((cell_far (p := ⟨gb347, _, none⟩) NB339_347.out _).trans (((cell_far (p := ⟨gb347, _, none⟩) NB339_347.out _).trans (((cell_far (p := ⟨gb347, _, none⟩) NB339_347.out _).trans (((cell_far (p := ⟨gb347, _, none⟩) NB339_347.out _).trans (((cell_far (p := ⟨gb347, _, none⟩) NB339_347.out _).trans (((cell_far (p := ⟨gb347, _, none⟩) NB339_347.out _).trans (((cell_far (p := ⟨gb347, _, none⟩) NB339_347.out _).trans (((cell_far (p := ⟨gb347, _, none⟩) NB339_347.out _).trans (hHeld.2.2.2.2.1)))))))))))))))), ((cell_far (p := ⟨gb347, _, none⟩) NB339_347.out _).trans (((cell_far (p := ⟨gb347, _, none⟩) NB339_347.out _).trans (((cell_far (p := ⟨gb347, _, none⟩) NB339_347.out _).trans (((cell_far (p := ⟨gb347, _, none⟩) NB339_347.out _).trans (((cell_far (p := ⟨gb347, _, none⟩) NB339_347.out _).trans (((cell_far (p := ⟨gb347, _, none⟩) NB339_347.out _).trans (((cell_far (p := ⟨gb347, _, none⟩) NB339_347.out _).trans (((cell_far (p := ⟨gb347, _, none⟩) NB339_347.out _).trans (hHeld.2.2.2.2.2.1)))))))))))))))), ((cell_far (p := ⟨gb347, _, none⟩) NB339_347.out _).trans (((cell_far (p := ⟨gb347, _, none⟩) NB339_347.out _).trans (((cell_far (p := ⟨gb347, _, none⟩) NB339_347.out _).trans (((cell_far (p := ⟨gb347, _, none⟩) NB339_347.out _).trans (((cell_far (p := ⟨gb347, _, none⟩) NB339_347.out _).trans (((cell_far (p := ⟨gb347, _, none⟩) NB339_347.out _).trans (((cell_far (p := ⟨gb347, _, none⟩) NB339_347.out _).trans (((cell_far (p := ⟨gb347, _, none⟩) NB339_347.out _).trans (hHeld.2.2.2.2.2.2.1)))))))))))))))), ((cell_far (p := ⟨gb347, _, none⟩) NB339_347.out _).trans (((cell_far (p := ⟨gb347, _, none⟩) NB339_347.out _).trans (((cell_far (p := ⟨gb347, _, none⟩) NB339_347.out _).trans (((cell_far (p := ⟨gb347, _, none⟩) NB339_347.out _).trans (((cell_far (p := ⟨gb347, _, none⟩) NB339_347.out _).trans (((cell_far (p := ⟨gb347, _, none⟩) NB339_347.out _).trans (((cell_far (p := ⟨gb347, _, none⟩) NB339_347.out _).trans (((cell_far (p := ⟨gb347, _, none⟩) NB339_347.out _).trans (hHeld.2.2.2.2.2.2.2))))))))))))))))⟩ (fun hHeld => ?_)
  clear hK K
  refine done_ (done_of HT_.out (by kernel_rfl)) ?_
  have hnb114 := NB339_340.out
  have hnc114 := NB340_339.out
  have hnb115 := NB339_347.out
  have hnc115 := NB347_339.out
  have z116_0 : w103.cell? ⟨gb339, 0, none⟩ = some (.int .i64 a0_0) := (blk_cell BK339.out 0).trans rfl
  have z116_1 : w103.cell? ⟨gb339, 1, none⟩ = some (.bool a0_1) := (blk_cell BK339.out 1).trans rfl
  have z116_2 : w103.cell? ⟨gb339, 2, none⟩ = some (.bool a0_2) := (blk_cell BK339.out 2).trans rfl
  have z116_3 : w103.cell? ⟨gb339, 3, none⟩ = some (.int .i64 a0_3) := (blk_cell BK339.out 3).trans rfl
  have z116_4 : w103.cell? ⟨gb339, 4, none⟩ = some (.string a0_4) := (blk_cell BK339.out 4).trans rfl
  have z116_5 : w103.cell? ⟨gb339, 5, none⟩ = some (.int .i64 a0_5) := (blk_cell BK339.out 5).trans rfl
  have z116_6 : w103.cell? ⟨gb339, 6, none⟩ = some (.slice A0_6 l0_6.length c0_6) := (blk_cell BK339.out 6).trans rfl
  have z116_7 : w103.cell? ⟨gb339, 7, none⟩ = some (.slice A0_7 l0_7.length c0_7) := (blk_cell BK339.out 7).trans rfl
  have q116_0 := blk_frozen BK339.out 0
  have q116_1 := blk_frozen BK339.out 1
  have q116_2 := blk_frozen BK339.out 2
  have q116_3 := blk_frozen BK339.out 3
  have q116_4 := blk_frozen BK339.out 4
  have q116_5 := blk_frozen BK339.out 5
  have q116_6 := blk_frozen BK339.out 6
  have q116_7 := blk_frozen BK339.out 7
  try go_wp2_with (first | ((with_reducible refine gate_callee (f := 49) rfl ?_); refine goesL_ (some 24) rfl rfl Tryz.func49 (by kernel_rfl) rfl #[.agg #[.int .i64 a0_0, .bool a0_1, .bool a0_2, .int .i64 a0_3, .string a0_4, .int .i64 a0_5, .slice A0_6 l0_6.length c0_6, .slice A0_7 l0_7.length c0_7]] rfl argsS_ ?_; (with_reducible refine (impl_GoodMessage.calls k a0_0 a0_1 a0_2 a0_3 a0_4 a0_5 _ _ l0_6 _ _ l0_7 false _ ?side1 ?side2 ?side3 ?side4 A7.out).mono ?_); (case side1 => exact Kd.C_below HR0_6.out bq1_); (case side2 => exact HC0_6.out); (case side3 => exact Kd.C_below HR0_7.out bq1_); (case side4 => exact HC0_7.out); rintro e w117 ⟨rfl, hb⟩; refine ⟨_, rfl, ?_⟩; replace HO343 := a0_ (Kd.R_below (kR_ (farR8_ HO343.out BK347.out)) hb); replace HO346 := a0_ (Kd.R_below (kR_ (farR8_ HO346.out BK347.out)) hb); replace BK339 := a0_ (blk_below (g := gb339) (o := .cells #[.int .i64 a0_0, .bool a0_1, .bool a0_2, .int .i64 a0_3, .string a0_4, .int .i64 a0_5, .slice A0_6 l0_6.length c0_6, .slice A0_7 l0_7.length c0_7] 24 (0, 0)) (bfar8_ NB339_347.out BK339.out) hb); replace BK340 := a0_ (blk_below (g := gb340) (o := .cells #[.int .i64 0, .bool false, .bool false, .int .i64 0, .string (⟨#[]⟩ : ByteArray), .int .i64 0, .slice none 0 0, .slice none 0 0] 24 (0, 0)) (bfar8_ NB340_347.out BK340.out) hb); replace BK347 := a0_ (blk_below (g := gb347) (o := .cells #[.int .i64 a0_0, .bool true, .bool false, .int .i64 a1, .string a0_4, .int .i64 a0_5, .slice Ao105 t341.length co105, .slice Ao104 t344.length co104] 24 (0, 0)) (put8_ BK347.out) hb); replace HB := a0_ (below_step bq1_ hb); (try clear hb); (try clear hb2); (try clear hk); (try clear hi); have hnb118 := NB340_347.out; have hnc118 := NB347_340.out; obtain ⟨z119_0, z119_1, z119_2, z119_3, z119_4, z119_5, z119_6, z119_7, q119_0, q119_1, q119_2, q119_3, q119_4, q119_5, q119_6, q119_7⟩ := bk8_ BK340.out))
  refine bodyPost_ret (results_ct rfl _ _ gb340 24 #[.int .i64 0, .bool false, .bool false, .int .i64 0, .string (⟨#[]⟩ : ByteArray), .int .i64 0, .slice none 0 0, .slice none 0 0] (0, 0) _ rfl (put8_ BK340.out) Tryz.underlying24 rfl (by kernel_rfl)) rfl ?_
  exact ⟨_, _, rr_, by first | exact Kd.R_nil _ _ _ _ _ | exact Kd.N_nil _ _ _ _ _ | exact Kd.V_nil _ _ _ _ _ | exact Kd.Q_nil _ _ _ _ _ | exact Kd.S_nil _ _ _ _ _, by first | exact Kd.R_nil _ _ _ _ _ | exact Kd.N_nil _ _ _ _ _ | exact Kd.V_nil _ _ _ _ _ | exact Kd.Q_nil _ _ _ _ _ | exact Kd.S_nil _ _ _ _ _, bq1_⟩
 subst c8
 rw [if_pos rfl] at H
 by_cases c9 : a0_1 = true
 case pos =>
  subst c9
  rw [if_pos rfl] at H
  simp only [Option.some.injEq, Prod.mk.injEq] at H
  obtain ⟨rfl, rfl, rfl, rfl, rfl, rfl, rfl, rfl, rfl⟩ := H
  go_enter Tryz.func22, Tryz.ntmps22
  try go_wp2_with (first | ((with_reducible refine gate_dst (N := 4) rfl ?_); refine boxS_ 4 #[.int .i64 a0_0, .bool true, .bool a0_2, .int .i64 a0_3, .string a0_4, .int .i64 a0_5, .slice A0_6 l0_6.length c0_6, .slice A0_7 l0_7.length c0_7] 24 (fun gb339 hg w10 hbox hb => ?_); have n0_ := a0_ (below_step bq0_ hb); have n1_ := a0_ (hbox); have n2_ := a0_ (gw_ hg : w.heap.size ≤ gb339); have n3_ := n2_; clear HB; have HB := n0_; have BK339 := n1_; have GW339 := n2_; have GE339 := n3_; clear n0_ n1_ n2_ n3_; clear hb hbox hg) | ((with_reducible refine gate_dst (N := 8) rfl ?_); refine boxS_ 8 #[.int .i64 0, .bool false, .bool false, .int .i64 0, .string (⟨#[]⟩ : ByteArray), .int .i64 0, .slice none 0 0, .slice none 0 0] 24 (fun gb340 hg w11 hbox hb => ?_); have n0_ := a0_ (bkB_ BK339 hb); have n1_ := a0_ (below_step bq1_ hb); have n2_ := a0_ (hbox); have n3_ := a0_ (gw_ hg (below_size bq1_) : w.heap.size ≤ gb340); have n4_ := n3_; have n5_ := a0_ ((by rw [hg]; exact Nat.ne_of_lt (blk_lt (g := gb339) (o := .cells #[.int .i64 a0_0, .bool true, .bool a0_2, .int .i64 a0_3, .string a0_4, .int .i64 a0_5, .slice A0_6 l0_6.length c0_6, .slice A0_7 l0_7.length c0_7] 24 (0, 0)) (kB_ BK339.out)) : gb339 ≠ gb340)); have n6_ := a0_ ((by rw [hg]; exact Nat.ne_of_gt (blk_lt (g := gb339) (o := .cells #[.int .i64 a0_0, .bool true, .bool a0_2, .int .i64 a0_3, .string a0_4, .int .i64 a0_5, .slice A0_6 l0_6.length c0_6, .slice A0_7 l0_7.length c0_7] 24 (0, 0)) (kB_ BK339.out)) : gb340 ≠ gb339)); clear BK339; clear HB; have BK339 := n0_; have HB := n1_; have BK340 := n2_; have GW340 := n3_; have GE340 := n4_; have NB339_340 := n5_; have NB340_339 := n6_; clear n0_ n1_ n2_ n3_ n4_ n5_ n6_; clear hb hbox hg))
  replace BK339 := a0_ (blk_drew BK339.out)
  replace BK340 := a0_ (blk_drew BK340.out)
  replace HB := a0_ (below_drew1 HB.out)
  refine start_ (n := 14) (S := fun w' => w'.cell? ⟨gb339, 0, none⟩ = some (.int .i64 a0_0) ∧ w'.cell? ⟨gb339, 1, none⟩ = some (.bool true) ∧ w'.cell? ⟨gb339, 2, none⟩ = some (.bool a0_2) ∧ w'.cell? ⟨gb339, 3, none⟩ = some (.int .i64 a0_3) ∧ w'.cell? ⟨gb339, 4, none⟩ = some (.string a0_4) ∧ w'.cell? ⟨gb339, 5, none⟩ = some (.int .i64 a0_5) ∧ w'.cell? ⟨gb339, 6, none⟩ = some (.slice A0_6 l0_6.length c0_6) ∧ w'.cell? ⟨gb339, 7, none⟩ = some (.slice A0_7 l0_7.length c0_7)) (ds := []) #[false, false, false, false, false, false, false, false, false, false, false, false, false, false] (by kernel_rfl) rfl rfl ⟨(blk_cell BK339.out 0).trans rfl, (blk_cell BK339.out 1).trans rfl, (blk_cell BK339.out 2).trans rfl, (blk_cell BK339.out 3).trans rfl, (blk_cell BK339.out 4).trans rfl, (blk_cell BK339.out 5).trans rfl, (blk_cell BK339.out 6).trans rfl, (blk_cell BK339.out 7).trans rfl⟩ (fun hHeld => ?_); refine with_tabW impl_ReplyTo.tab1 impl_ReplyTo.bits1 (fun HT_ HW_ => ?_)
  generalize w11.drew = w12 at BK339 BK340 HB hHeld ⊢
  refine pure_ (i := 0) (N := some 11) (v := ?_) (a' := ?_) #[true, false, false, false, false, false, false, false, false, false, false, false, false, false] rfl rfl (any_of HT_.out (by kernel_rfl)) (fun _ _ _ h => h) (Or.inl ⟨by rfl, ?_⟩) ?_ ?_
  rotate_left
  · intro w'
    go_simp
    with_reducible rfl
  rotate_left
  · simp only [Act.put, List.setIfInBounds_toArray, List.set_cons_zero, List.set_cons_succ, i64_w, i32_w]
    rfl
  refine pure_ (i := 2) (N := some 13) (v := ?_) (a' := ?_) #[true, false, true, false, false, false, false, false, false, false, false, false, false, false] rfl rfl (any_of HT_.out (by kernel_rfl)) (fun _ _ _ h => h) (Or.inl ⟨by rfl, ?_⟩) ?_ ?_
  rotate_left
  · intro w'
    go_simp
    with_reducible rfl
  rotate_left
  · simp only [Act.put, List.setIfInBounds_toArray, List.set_cons_zero, List.set_cons_succ, i64_w, i32_w]
    rfl
  refine pure_ (i := 3) (N := some 14) (v := ?_) (a' := ?_) #[true, false, true, true, false, false, false, false, false, false, false, false, false, false] rfl rfl (any_of HT_.out (by kernel_rfl)) (fun _ _ _ h => h) (Or.inl ⟨by rfl, ?_⟩) ?_ ?_
  rotate_left
  · intro w'
    go_simp
    with_reducible rfl
  rotate_left
  · simp only [Act.put, List.setIfInBounds_toArray, List.set_cons_zero, List.set_cons_succ, i64_w, i32_w]
    rfl
  refine pure_ (i := 5) (N := some 16) (v := ?_) (a' := ?_) #[true, false, true, true, false, true, false, false, false, false, false, false, false, false] rfl rfl (any_of HT_.out (by kernel_rfl)) (fun _ _ _ h => h) (Or.inl ⟨by rfl, ?_⟩) ?_ ?_
  rotate_left
  · intro w'
    go_simp
    with_reducible rfl
  rotate_left
  · simp only [Act.put, List.setIfInBounds_toArray, List.set_cons_zero, List.set_cons_succ, i64_w, i32_w]
    rfl
  refine pure_ (i := 7) (N := some 18) (v := ?_) (a' := ?_) #[true, false, true, true, false, true, false, true, false, false, false, false, false, false] rfl rfl (any_of HT_.out (by kernel_rfl)) (fun _ _ _ h => h) (Or.inl ⟨by rfl, ?_⟩) ?_ ?_
  rotate_left
  · intro w'
    go_simp
    with_reducible rfl
  rotate_left
  · simp only [Act.put, List.setIfInBounds_toArray, List.set_cons_zero, List.set_cons_succ, i64_w, i32_w]
    rfl
  refine pure_ (i := 9) (N := some 20) (v := ?_) (a' := ?_) #[true, false, true, true, false, true, false, true, false, true, false, false, false, false] rfl rfl (any_of HT_.out (by kernel_rfl)) (fun _ _ _ h => h) (Or.inl ⟨by rfl, ?_⟩) ?_ ?_
  rotate_left
  · intro w'
    go_simp
    with_reducible rfl
  rotate_left
  · simp only [Act.put, List.setIfInBounds_toArray, List.set_cons_zero, List.set_cons_succ, i64_w, i32_w]
    rfl
  refine take_ (i := 1) (N := some 12) (v := ?_) (a' := ?_) #[true, true, true, true, false, true, false, true, false, true, false, false, false, false] rfl rfl (take_ofW HT_.out HW_.out (by kernel_rfl)) (fun _ _ _ h => h) (Or.inl ⟨by rfl, ?_⟩) hHeld ?_ ?_
  rotate_left
  · rintro w' ⟨s0, s1, s2, s3, s4, s5, s6, s7⟩
    go_simp
    with_reducible rfl
  rotate_left
  · simp only [Act.put, List.setIfInBounds_toArray, List.set_cons_zero, List.set_cons_succ, i64_w, i32_w]
    rfl
  refine take_ (i := 4) (N := some 15) (v := ?_) (a' := ?_) #[true, true, true, true, true, true, false, true, false, true, false, false, false, false] rfl rfl (take_ofW HT_.out HW_.out (by kernel_rfl)) (fun _ _ _ h => h) (Or.inl ⟨by rfl, ?_⟩) hHeld ?_ ?_
  rotate_left
  · rintro w' ⟨s0, s1, s2, s3, s4, s5, s6, s7⟩
    go_simp
    with_reducible rfl
  rotate_left
  · simp only [Act.put, List.setIfInBounds_toArray, List.set_cons_zero, List.set_cons_succ, i64_w, i32_w]
    rfl
  refine take_ (i := 6) (N := some 17) (v := ?_) (a' := ?_) #[true, true, true, true, true, true, true, true, false, true, false, false, false, false] rfl rfl (take_ofW HT_.out HW_.out (by kernel_rfl)) (fun _ _ _ h => h) (Or.inl ⟨by rfl, ?_⟩) hHeld ?_ ?_
  rotate_left
  · rintro w' ⟨s0, s1, s2, s3, s4, s5, s6, s7⟩
    go_simp
    with_reducible rfl
  rotate_left
  · simp only [Act.put, List.setIfInBounds_toArray, List.set_cons_zero, List.set_cons_succ, i64_w, i32_w]
    rfl
  refine join_ (σ := Value × Value × Nat) 1 #[true, true, true, true, true, true, true, true, true, true, true, true, true, false] (fun s_ => [(19, s_.1), (21, s_.2.1), (10, .pointer (some ⟨s_.2.2, 0, none⟩)), (22, .agg #[.int .i64 a0_0, .bool true, .bool false, .int .i64 a1, .string a0_4, .int .i64 a0_5, s_.1, s_.2.1])]) (fun s_ w' => (w'.cell? ⟨gb339, 0, none⟩ = some (.int .i64 a0_0) ∧ w'.cell? ⟨gb339, 1, none⟩ = some (.bool true) ∧ w'.cell? ⟨gb339, 2, none⟩ = some (.bool a0_2) ∧ w'.cell? ⟨gb339, 3, none⟩ = some (.int .i64 a0_3) ∧ w'.cell? ⟨gb339, 4, none⟩ = some (.string a0_4) ∧ w'.cell? ⟨gb339, 5, none⟩ = some (.int .i64 a0_5) ∧ w'.cell? ⟨gb339, 6, none⟩ = some (.slice A0_6 l0_6.length c0_6) ∧ w'.cell? ⟨gb339, 7, none⟩ = some (.slice A0_7 l0_7.length c0_7)) ∧ (Kd.R k72 72 w' w.heap.size (fun k_ => some k_ ≠ (s_.2.1 : Value).ownBlock) s_.1 t341) ∧ (Kd.R k72 72 w' w.heap.size (fun k_ => some k_ ≠ (s_.1 : Value).ownBlock) s_.2.1 t344) ∧ (w'.heap[gb339]? = some (.cells #[.int .i64 a0_0, .bool true, .bool a0_2, .int .i64 a0_3, .string a0_4, .int .i64 a0_5, .slice A0_6 l0_6.length c0_6, .slice A0_7 l0_7.length c0_7] 24 (0, 0))) ∧ (w'.heap[gb340]? = some (.cells #[.int .i64 0, .bool false, .bool false, .int .i64 0, .string (⟨#[]⟩ : ByteArray), .int .i64 0, .slice none 0 0, .slice none 0 0] 24 (0, 0))) ∧ (w'.heap[s_.2.2]? = some (.cells #[.int .i64 0, .bool false, .bool false, .int .i64 0, .string (⟨#[]⟩ : ByteArray), .int .i64 0, .slice none 0 0, .slice none 0 0] 24 (0, 0))) ∧ (w.heap.size ≤ s_.2.2) ∧ (w.heap.size ≤ s_.2.2) ∧ (gb339 ≠ s_.2.2) ∧ (s_.2.2 ≠ gb339) ∧ (gb340 ≠ s_.2.2) ∧ (s_.2.2 ≠ gb340) ∧ (Below w.heap.size w w')) ?_ ?_
  rotate_left
  · intro hCont
    refine two_ (i := 8) (j := 12) (Ni := some 19) (Nj := some 10) #[true, true, true, true, true, true, true, true, true, true, false, false, false, false] #[true, true, true, true, true, true, true, true, false, true, false, false, true, false] rfl rfl rfl rfl (two_of HT_.out (by kernel_rfl)) (by decide) (by decide) (fun K hK => ?_) (fun K hK => ?_)
    · skip
      refine goes_ Tryz.func52 (by kernel_rfl) rfl #[.slice A2 l2.length c2] (by rfl) rfl rfl argsS_ ?_
      with_reducible refine (slices_Clone_rec.calls _ _ l2 t341 _ ?side1 ?side2 A5.out).mono ?_
      (case side1 => exact kC_ HR2.out HB.out)
      (case side2 => exact HC2.out)
      rintro e w13 ⟨v342, rfl, ho0, hb⟩
      refine ⟨_, rfl, ?_⟩
      have HO343 := a0_ (Kd.R_lower ho0 (below_size bq1_))
      replace BK339 := a0_ (bkB_ BK339 hb)
      replace BK340 := a0_ (bkB_ BK340 hb)
      replace HB := a0_ (below_step bq1_ hb)
      (try clear hb)
      (try clear hb2)
      (try clear hk)
      (try clear hi)
      (try clear ho0)
      refine hK.out _ _ ⟨(blk_cell BK339.out 0).trans rfl, (blk_cell BK339.out 1).trans rfl, (blk_cell BK339.out 2).trans rfl, (blk_cell BK339.out 3).trans rfl, (blk_cell BK339.out 4).trans rfl, (blk_cell BK339.out 5).trans rfl, (blk_cell BK339.out 6).trans rfl, (blk_cell BK339.out 7).trans rfl⟩ (fun hHeld => ?_)
      clear hK K
      refine norm_ (a' := ?_) ?_ ?_
      rotate_left
      · show Act.put _ (some 19) _ = _
        simp only [Act.put, List.setIfInBounds_toArray, List.set_cons_zero, List.set_cons_succ, i64_w, i32_w]
        rfl
      refine two_ (i := 10) (j := 12) (Ni := some 21) (Nj := some 10) #[true, true, true, true, true, true, true, true, true, true, true, false, false, false] #[true, true, true, true, true, true, true, true, true, true, false, false, true, false] rfl rfl rfl rfl (two_of HT_.out (by kernel_rfl)) (by decide) (by decide) (fun K hK => ?_) (fun K hK => ?_)
      · skip
        refine goes_ Tryz.func52 (by kernel_rfl) rfl #[.slice A3 l3.length c3] (by rfl) rfl rfl argsS_ ?_
        with_reducible refine (slices_Clone_rec.calls _ _ l3 t344 _ ?side1 ?side2 A6.out).mono ?_
        (case side1 => exact kC_ HR3.out HB.out)
        (case side2 => exact HC3.out)
        rintro e w14 ⟨v345, rfl, ho0, hb⟩
        refine ⟨_, rfl, ?_⟩
        have n0_ := a0_ (Kd.R_elder' (kR_ HO343.out) (Kd.R_base ho0) hb)
        have n1_ := a0_ (Kd.R_lower (Kd.R_new' ho0 (Kd.R_lt (kR_ HO343.out))) (below_size bq1_))
        have n2_ := a0_ (bkB_ BK339 hb)
        have n3_ := a0_ (bkB_ BK340 hb)
        have n4_ := a0_ (below_step bq1_ hb)
        clear HO343
        clear BK339
        clear BK340
        clear HB
        have HO343 := n0_
        have HO346 := n1_
        have BK339 := n2_
        have BK340 := n3_
        have HB := n4_
        clear n0_ n1_ n2_ n3_ n4_
        (try clear hb)
        (try clear hb2)
        (try clear hk)
        (try clear hi)
        (try clear ho0)
        obtain ⟨Ao15, co15, eo15⟩ := Kd.R_slice HO346.out
        (first | subst eo15 | (injection eo15 with f1_ f2_ f3_; have f4_ := f1_.symm; have f5_ := f3_.symm; clear f1_ f2_ f3_; subst f4_; subst f5_))
        obtain ⟨Ao16, co16, eo16⟩ := Kd.R_slice HO343.out
        (first | subst eo16 | (injection eo16 with f1_ f2_ f3_; have f4_ := f1_.symm; have f5_ := f3_.symm; clear f1_ f2_ f3_; subst f4_; subst f5_))
        refine hK.out _ _ ⟨(blk_cell BK339.out 0).trans rfl, (blk_cell BK339.out 1).trans rfl, (blk_cell BK339.out 2).trans rfl, (blk_cell BK339.out 3).trans rfl, (blk_cell BK339.out 4).trans rfl, (blk_cell BK339.out 5).trans rfl, (blk_cell BK339.out 6).trans rfl, (blk_cell BK339.out 7).trans rfl⟩ (fun hHeld => ?_)
        clear hK K
        refine norm_ (a' := ?_) ?_ ?_
        rotate_left
        · show Act.put _ (some 21) _ = _
          simp only [Act.put, List.setIfInBounds_toArray, List.set_cons_zero, List.set_cons_succ, i64_w, i32_w]
          rfl
        refine pure_ (i := 11) (N := some 22) (v := ?_) (a' := ?_) #[true, true, true, true, true, true, true, true, true, true, true, true, false, false] rfl rfl (any_of HT_.out (by kernel_rfl)) (fun _ _ _ h => h) (Or.inl ⟨by rfl, ?_⟩) ?_ ?_
        rotate_left
        · intro w'
          go_simp
          with_reducible rfl
        rotate_left
        · simp only [Act.put, List.setIfInBounds_toArray, List.set_cons_zero, List.set_cons_succ, i64_w, i32_w]
          rfl
        refine one_ (i := 12) (N := some 10) #[true, true, true, true, true, true, true, true, true, true, true, true, true, false] rfl rfl (one_of HT_.out (by kernel_rfl)) (by decide) (fun K hK => ?_)
        refine box_step ?hg (N := 10) ?hd (cs := #[.int .i64 0, .bool false, .bool false, .int .i64 0, .string (⟨#[]⟩ : ByteArray), .int .i64 0, .slice none 0 0, .slice none 0 0]) (t := 24) ?hr ?_; (case hd => rfl); (case hg => rfl); (case hr => first | (go_simp; done) | (go_simp; rfl))
        intro gb347 hg w17 hbox hb
        have n0_ := a0_ (Kd.R_below (kR_ HO343.out) hb)
        have n1_ := a0_ (Kd.R_below (kR_ HO346.out) hb)
        have n2_ := a0_ (bkB_ BK339 hb)
        have n3_ := a0_ (bkB_ BK340 hb)
        have n4_ := a0_ (below_step bq1_ hb)
        have n5_ := a0_ (hbox)
        have n6_ := a0_ ((by rw [hg]; exact (below_size bq1_) : w.heap.size ≤ gb347))
        have n7_ := a0_ ((by rw [hg]; exact (below_size bq1_) : w.heap.size ≤ gb347))
        have n8_ := a0_ ((by rw [hg]; exact Nat.ne_of_lt (blk_lt (g := gb339) (o := .cells #[.int .i64 a0_0, .bool true, .bool a0_2, .int .i64 a0_3, .string a0_4, .int .i64 a0_5, .slice A0_6 l0_6.length c0_6, .slice A0_7 l0_7.length c0_7] 24 (0, 0)) (kB_ BK339.out)) : gb339 ≠ gb347))
        have n9_ := a0_ ((by rw [hg]; exact Nat.ne_of_gt (blk_lt (g := gb339) (o := .cells #[.int .i64 a0_0, .bool true, .bool a0_2, .int .i64 a0_3, .string a0_4, .int .i64 a0_5, .slice A0_6 l0_6.length c0_6, .slice A0_7 l0_7.length c0_7] 24 (0, 0)) (kB_ BK339.out)) : gb347 ≠ gb339))
        have n10_ := a0_ ((by rw [hg]; exact Nat.ne_of_lt (blk_lt (g := gb340) (o := .cells #[.int .i64 0, .bool false, .bool false, .int .i64 0, .string (⟨#[]⟩ : ByteArray), .int .i64 0, .slice none 0 0, .slice none 0 0] 24 (0, 0)) (kB_ BK340.out)) : gb340 ≠ gb347))
        have n11_ := a0_ ((by rw [hg]; exact Nat.ne_of_gt (blk_lt (g := gb340) (o := .cells #[.int .i64 0, .bool false, .bool false, .int .i64 0, .string (⟨#[]⟩ : ByteArray), .int .i64 0, .slice none 0 0, .slice none 0 0] 24 (0, 0)) (kB_ BK340.out)) : gb347 ≠ gb340))
        clear HO343
        clear HO346
        clear BK339
        clear BK340
        clear HB
        have HO343 := n0_
        have HO346 := n1_
        have BK339 := n2_
        have BK340 := n3_
        have HB := n4_
        have BK347 := n5_
        have GW347 := n6_
        have GE347 := n7_
        have NB339_347 := n8_
        have NB347_339 := n9_
        have NB340_347 := n10_
        have NB347_340 := n11_
        clear n0_ n1_ n2_ n3_ n4_ n5_ n6_ n7_ n8_ n9_ n10_ n11_
        clear hb hbox hg
        refine hK.out _ _ ⟨(blk_cell BK339.out 0).trans rfl, (blk_cell BK339.out 1).trans rfl, (blk_cell BK339.out 2).trans rfl, (blk_cell BK339.out 3).trans rfl, (blk_cell BK339.out 4).trans rfl, (blk_cell BK339.out 5).trans rfl, (blk_cell BK339.out 6).trans rfl, (blk_cell BK339.out 7).trans rfl⟩ (fun hHeld => ?_)
        clear hK K
        refine norm_ (a' := ?_) ?_ ?_
        rotate_left
        · show Act.put _ (some 10) _ = _
          simp only [Act.put, List.setIfInBounds_toArray, List.set_cons_zero, List.set_cons_succ, i64_w, i32_w]
          rfl
        exact norm_ (by simp only [putAll, Act.put, List.setIfInBounds_toArray, List.set_cons_zero, List.set_cons_succ]) (hCont (.slice Ao16 t341.length co16, .slice Ao15 t344.length co15, gb347) _ ⟨hHeld, (kR_ (Kd.R_mono HO343.out (fun _ hk => hk.2))), (kR_ (Kd.R_mono HO346.out (fun _ hk => hk.2))), (kB_ BK339.out), (kB_ BK340.out), (kB_ BK347.out), GW347.out, GE347.out, NB339_347.out, NB347_339.out, NB340_347.out, NB347_340.out, bq1_⟩)
      · skip
        refine box_step ?hg (N := 10) ?hd (cs := #[.int .i64 0, .bool false, .bool false, .int .i64 0, .string (⟨#[]⟩ : ByteArray), .int .i64 0, .slice none 0 0, .slice none 0 0]) (t := 24) ?hr ?_; (case hd => rfl); (case hg => rfl); (case hr => first | (go_simp; done) | (go_simp; rfl))
        intro gb347 hg w14 hbox hb
        have n0_ := a0_ (Kd.R_below (kR_ HO343.out) hb)
        have n1_ := a0_ (bkB_ BK339 hb)
        have n2_ := a0_ (bkB_ BK340 hb)
        have n3_ := a0_ (below_step bq1_ hb)
        have n4_ := a0_ (hbox)
        have n5_ := a0_ ((by rw [hg]; exact (below_size bq1_) : w.heap.size ≤ gb347))
        have n6_ := a0_ ((by rw [hg]; exact (below_size bq1_) : w.heap.size ≤ gb347))
        have n7_ := a0_ ((by rw [hg]; exact Nat.ne_of_lt (blk_lt (g := gb339) (o := .cells #[.int .i64 a0_0, .bool true, .bool a0_2, .int .i64 a0_3, .string a0_4, .int .i64 a0_5, .slice A0_6 l0_6.length c0_6, .slice A0_7 l0_7.length c0_7] 24 (0, 0)) (kB_ BK339.out)) : gb339 ≠ gb347))
        have n8_ := a0_ ((by rw [hg]; exact Nat.ne_of_gt (blk_lt (g := gb339) (o := .cells #[.int .i64 a0_0, .bool true, .bool a0_2, .int .i64 a0_3, .string a0_4, .int .i64 a0_5, .slice A0_6 l0_6.length c0_6, .slice A0_7 l0_7.length c0_7] 24 (0, 0)) (kB_ BK339.out)) : gb347 ≠ gb339))
        have n9_ := a0_ ((by rw [hg]; exact Nat.ne_of_lt (blk_lt (g := gb340) (o := .cells #[.int .i64 0, .bool false, .bool false, .int .i64 0, .string (⟨#[]⟩ : ByteArray), .int .i64 0, .slice none 0 0, .slice none 0 0] 24 (0, 0)) (kB_ BK340.out)) : gb340 ≠ gb347))
        have n10_ := a0_ ((by rw [hg]; exact Nat.ne_of_gt (blk_lt (g := gb340) (o := .cells #[.int .i64 0, .bool false, .bool false, .int .i64 0, .string (⟨#[]⟩ : ByteArray), .int .i64 0, .slice none 0 0, .slice none 0 0] 24 (0, 0)) (kB_ BK340.out)) : gb347 ≠ gb340))
        clear HO343
        clear BK339
        clear BK340
        clear HB
        have HO343 := n0_
        have BK339 := n1_
        have BK340 := n2_
        have HB := n3_
        have BK347 := n4_
        have GW347 := n5_
        have GE347 := n6_
        have NB339_347 := n7_
        have NB347_339 := n8_
        have NB340_347 := n9_
        have NB347_340 := n10_
        clear n0_ n1_ n2_ n3_ n4_ n5_ n6_ n7_ n8_ n9_ n10_
        clear hb hbox hg
        refine hK.out _ _ ⟨(blk_cell BK339.out 0).trans rfl, (blk_cell BK339.out 1).trans rfl, (blk_cell BK339.out 2).trans rfl, (blk_cell BK339.out 3).trans rfl, (blk_cell BK339.out 4).trans rfl, (blk_cell BK339.out 5).trans rfl, (blk_cell BK339.out 6).trans rfl, (blk_cell BK339.out 7).trans rfl⟩ (fun hHeld => ?_)
        clear hK K
        refine norm_ (a' := ?_) ?_ ?_
        rotate_left
        · show Act.put _ (some 10) _ = _
          simp only [Act.put, List.setIfInBounds_toArray, List.set_cons_zero, List.set_cons_succ, i64_w, i32_w]
          rfl
        refine one_ (i := 10) (N := some 21) #[true, true, true, true, true, true, true, true, true, true, true, false, true, false] rfl rfl (one_of HT_.out (by kernel_rfl)) (by decide) (fun K hK => ?_)
        refine goes_ Tryz.func52 (by kernel_rfl) rfl #[.slice A3 l3.length c3] (by rfl) rfl rfl argsS_ ?_
        with_reducible refine (slices_Clone_rec.calls _ _ l3 t344 _ ?side1 ?side2 A6.out).mono ?_
        (case side1 => exact kC_ HR3.out HB.out)
        (case side2 => exact HC3.out)
        rintro e w15 ⟨v345, rfl, ho0, hb⟩
        refine ⟨_, rfl, ?_⟩
        have n0_ := a0_ (Kd.R_elder' (kR_ HO343.out) (Kd.R_base ho0) hb)
        have n1_ := a0_ (Kd.R_lower (Kd.R_new' ho0 (Kd.R_lt (kR_ HO343.out))) (below_size bq1_))
        have n2_ := a0_ (bkB_ BK339 hb)
        have n3_ := a0_ (bkB_ BK340 hb)
        have n4_ := a0_ (bkB_ BK347 hb)
        have n5_ := a0_ (below_step bq1_ hb)
        clear HO343
        clear BK339
        clear BK340
        clear BK347
        clear HB
        have HO343 := n0_
        have HO346 := n1_
        have BK339 := n2_
        have BK340 := n3_
        have BK347 := n4_
        have HB := n5_
        clear n0_ n1_ n2_ n3_ n4_ n5_
        (try clear hb)
        (try clear hb2)
        (try clear hk)
        (try clear hi)
        (try clear ho0)
        obtain ⟨Ao16, co16, eo16⟩ := Kd.R_slice HO346.out
        (first | subst eo16 | (injection eo16 with f1_ f2_ f3_; have f4_ := f1_.symm; have f5_ := f3_.symm; clear f1_ f2_ f3_; subst f4_; subst f5_))
        obtain ⟨Ao17, co17, eo17⟩ := Kd.R_slice HO343.out
        (first | subst eo17 | (injection eo17 with f1_ f2_ f3_; have f4_ := f1_.symm; have f5_ := f3_.symm; clear f1_ f2_ f3_; subst f4_; subst f5_))
        refine hK.out _ _ ⟨(blk_cell BK339.out 0).trans rfl, (blk_cell BK339.out 1).trans rfl, (blk_cell BK339.out 2).trans rfl, (blk_cell BK339.out 3).trans rfl, (blk_cell BK339.out 4).trans rfl, (blk_cell BK339.out 5).trans rfl, (blk_cell BK339.out 6).trans rfl, (blk_cell BK339.out 7).trans rfl⟩ (fun hHeld => ?_)
        clear hK K
        refine norm_ (a' := ?_) ?_ ?_
        rotate_left
        · show Act.put _ (some 21) _ = _
          simp only [Act.put, List.setIfInBounds_toArray, List.set_cons_zero, List.set_cons_succ, i64_w, i32_w]
          rfl
        refine pure_ (i := 11) (N := some 22) (v := ?_) (a' := ?_) #[true, true, true, true, true, true, true, true, true, true, true, true, true, false] rfl rfl (any_of HT_.out (by kernel_rfl)) (fun _ _ _ h => h) (Or.inl ⟨by rfl, ?_⟩) ?_ ?_
        rotate_left
        · intro w'
          go_simp
          with_reducible rfl
        rotate_left
        · simp only [Act.put, List.setIfInBounds_toArray, List.set_cons_zero, List.set_cons_succ, i64_w, i32_w]
          rfl
        exact norm_ (by simp only [putAll, Act.put, List.setIfInBounds_toArray, List.set_cons_zero, List.set_cons_succ]) (hCont (.slice Ao17 t341.length co17, .slice Ao16 t344.length co16, gb347) _ ⟨hHeld, (kR_ (Kd.R_mono HO343.out (fun _ hk => hk.2))), (kR_ (Kd.R_mono HO346.out (fun _ hk => hk.2))), (kB_ BK339.out), (kB_ BK340.out), (kB_ BK347.out), GW347.out, GE347.out, NB339_347.out, NB347_339.out, NB340_347.out, NB347_340.out, bq1_⟩)
    · skip
      refine box_step ?hg (N := 10) ?hd (cs := #[.int .i64 0, .bool false, .bool false, .int .i64 0, .string (⟨#[]⟩ : ByteArray), .int .i64 0, .slice none 0 0, .slice none 0 0]) (t := 24) ?hr ?_; (case hd => rfl); (case hg => rfl); (case hr => first | (go_simp; done) | (go_simp; rfl))
      intro gb347 hg w13 hbox hb
      have n0_ := a0_ (bkB_ BK339 hb)
      have n1_ := a0_ (bkB_ BK340 hb)
      have n2_ := a0_ (below_step bq1_ hb)
      have n3_ := a0_ (hbox)
      have n4_ := a0_ ((by rw [hg]; exact (below_size bq1_) : w.heap.size ≤ gb347))
      have n5_ := a0_ ((by rw [hg]; exact (below_size bq1_) : w.heap.size ≤ gb347))
      have n6_ := a0_ ((by rw [hg]; exact Nat.ne_of_lt (blk_lt (g := gb339) (o := .cells #[.int .i64 a0_0, .bool true, .bool a0_2, .int .i64 a0_3, .string a0_4, .int .i64 a0_5, .slice A0_6 l0_6.length c0_6, .slice A0_7 l0_7.length c0_7] 24 (0, 0)) (kB_ BK339.out)) : gb339 ≠ gb347))
      have n7_ := a0_ ((by rw [hg]; exact Nat.ne_of_gt (blk_lt (g := gb339) (o := .cells #[.int .i64 a0_0, .bool true, .bool a0_2, .int .i64 a0_3, .string a0_4, .int .i64 a0_5, .slice A0_6 l0_6.length c0_6, .slice A0_7 l0_7.length c0_7] 24 (0, 0)) (kB_ BK339.out)) : gb347 ≠ gb339))
      have n8_ := a0_ ((by rw [hg]; exact Nat.ne_of_lt (blk_lt (g := gb340) (o := .cells #[.int .i64 0, .bool false, .bool false, .int .i64 0, .string (⟨#[]⟩ : ByteArray), .int .i64 0, .slice none 0 0, .slice none 0 0] 24 (0, 0)) (kB_ BK340.out)) : gb340 ≠ gb347))
      have n9_ := a0_ ((by rw [hg]; exact Nat.ne_of_gt (blk_lt (g := gb340) (o := .cells #[.int .i64 0, .bool false, .bool false, .int .i64 0, .string (⟨#[]⟩ : ByteArray), .int .i64 0, .slice none 0 0, .slice none 0 0] 24 (0, 0)) (kB_ BK340.out)) : gb347 ≠ gb340))
      clear BK339
      clear BK340
      clear HB
      have BK339 := n0_
      have BK340 := n1_
      have HB := n2_
      have BK347 := n3_
      have GW347 := n4_
      have GE347 := n5_
      have NB339_347 := n6_
      have NB347_339 := n7_
      have NB340_347 := n8_
      have NB347_340 := n9_
      clear n0_ n1_ n2_ n3_ n4_ n5_ n6_ n7_ n8_ n9_
      clear hb hbox hg
      refine hK.out _ _ ⟨(blk_cell BK339.out 0).trans rfl, (blk_cell BK339.out 1).trans rfl, (blk_cell BK339.out 2).trans rfl, (blk_cell BK339.out 3).trans rfl, (blk_cell BK339.out 4).trans rfl, (blk_cell BK339.out 5).trans rfl, (blk_cell BK339.out 6).trans rfl, (blk_cell BK339.out 7).trans rfl⟩ (fun hHeld => ?_)
      clear hK K
      refine norm_ (a' := ?_) ?_ ?_
      rotate_left
      · show Act.put _ (some 10) _ = _
        simp only [Act.put, List.setIfInBounds_toArray, List.set_cons_zero, List.set_cons_succ, i64_w, i32_w]
        rfl
      refine one_ (i := 8) (N := some 19) #[true, true, true, true, true, true, true, true, true, true, false, false, true, false] rfl rfl (one_of HT_.out (by kernel_rfl)) (by decide) (fun K hK => ?_)
      refine goes_ Tryz.func52 (by kernel_rfl) rfl #[.slice A2 l2.length c2] (by rfl) rfl rfl argsS_ ?_
      with_reducible refine (slices_Clone_rec.calls _ _ l2 t341 _ ?side1 ?side2 A5.out).mono ?_
      (case side1 => exact kC_ HR2.out HB.out)
      (case side2 => exact HC2.out)
      rintro e w14 ⟨v342, rfl, ho0, hb⟩
      refine ⟨_, rfl, ?_⟩
      have HO343 := a0_ (Kd.R_lower ho0 (below_size bq1_))
      replace BK339 := a0_ (bkB_ BK339 hb)
      replace BK340 := a0_ (bkB_ BK340 hb)
      replace BK347 := a0_ (bkB_ BK347 hb)
      replace HB := a0_ (below_step bq1_ hb)
      (try clear hb)
      (try clear hb2)
      (try clear hk)
      (try clear hi)
      (try clear ho0)
      refine hK.out _ _ ⟨(blk_cell BK339.out 0).trans rfl, (blk_cell BK339.out 1).trans rfl, (blk_cell BK339.out 2).trans rfl, (blk_cell BK339.out 3).trans rfl, (blk_cell BK339.out 4).trans rfl, (blk_cell BK339.out 5).trans rfl, (blk_cell BK339.out 6).trans rfl, (blk_cell BK339.out 7).trans rfl⟩ (fun hHeld => ?_)
      clear hK K
      refine norm_ (a' := ?_) ?_ ?_
      rotate_left
      · show Act.put _ (some 19) _ = _
        simp only [Act.put, List.setIfInBounds_toArray, List.set_cons_zero, List.set_cons_succ, i64_w, i32_w]
        rfl
      refine one_ (i := 10) (N := some 21) #[true, true, true, true, true, true, true, true, true, true, true, false, true, false] rfl rfl (one_of HT_.out (by kernel_rfl)) (by decide) (fun K hK => ?_)
      refine goes_ Tryz.func52 (by kernel_rfl) rfl #[.slice A3 l3.length c3] (by rfl) rfl rfl argsS_ ?_
      with_reducible refine (slices_Clone_rec.calls _ _ l3 t344 _ ?side1 ?side2 A6.out).mono ?_
      (case side1 => exact kC_ HR3.out HB.out)
      (case side2 => exact HC3.out)
      rintro e w15 ⟨v345, rfl, ho0, hb⟩
      refine ⟨_, rfl, ?_⟩
      have n0_ := a0_ (Kd.R_elder' (kR_ HO343.out) (Kd.R_base ho0) hb)
      have n1_ := a0_ (Kd.R_lower (Kd.R_new' ho0 (Kd.R_lt (kR_ HO343.out))) (below_size bq1_))
      have n2_ := a0_ (bkB_ BK339 hb)
      have n3_ := a0_ (bkB_ BK340 hb)
      have n4_ := a0_ (bkB_ BK347 hb)
      have n5_ := a0_ (below_step bq1_ hb)
      clear HO343
      clear BK339
      clear BK340
      clear BK347
      clear HB
      have HO343 := n0_
      have HO346 := n1_
      have BK339 := n2_
      have BK340 := n3_
      have BK347 := n4_
      have HB := n5_
      clear n0_ n1_ n2_ n3_ n4_ n5_
      (try clear hb)
      (try clear hb2)
      (try clear hk)
      (try clear hi)
      (try clear ho0)
      obtain ⟨Ao16, co16, eo16⟩ := Kd.R_slice HO346.out
      (first | subst eo16 | (injection eo16 with f1_ f2_ f3_; have f4_ := f1_.symm; have f5_ := f3_.symm; clear f1_ f2_ f3_; subst f4_; subst f5_))
      obtain ⟨Ao17, co17, eo17⟩ := Kd.R_slice HO343.out
      (first | subst eo17 | (injection eo17 with f1_ f2_ f3_; have f4_ := f1_.symm; have f5_ := f3_.symm; clear f1_ f2_ f3_; subst f4_; subst f5_))
      refine hK.out _ _ ⟨(blk_cell BK339.out 0).trans rfl, (blk_cell BK339.out 1).trans rfl, (blk_cell BK339.out 2).trans rfl, (blk_cell BK339.out 3).trans rfl, (blk_cell BK339.out 4).trans rfl, (blk_cell BK339.out 5).trans rfl, (blk_cell BK339.out 6).trans rfl, (blk_cell BK339.out 7).trans rfl⟩ (fun hHeld => ?_)
      clear hK K
      refine norm_ (a' := ?_) ?_ ?_
      rotate_left
      · show Act.put _ (some 21) _ = _
        simp only [Act.put, List.setIfInBounds_toArray, List.set_cons_zero, List.set_cons_succ, i64_w, i32_w]
        rfl
      refine pure_ (i := 11) (N := some 22) (v := ?_) (a' := ?_) #[true, true, true, true, true, true, true, true, true, true, true, true, true, false] rfl rfl (any_of HT_.out (by kernel_rfl)) (fun _ _ _ h => h) (Or.inl ⟨by rfl, ?_⟩) ?_ ?_
      rotate_left
      · intro w'
        go_simp
        with_reducible rfl
      rotate_left
      · simp only [Act.put, List.setIfInBounds_toArray, List.set_cons_zero, List.set_cons_succ, i64_w, i32_w]
        rfl
      exact norm_ (by simp only [putAll, Act.put, List.setIfInBounds_toArray, List.set_cons_zero, List.set_cons_succ]) (hCont (.slice Ao17 t341.length co17, .slice Ao16 t344.length co16, gb347) _ ⟨hHeld, (kR_ (Kd.R_mono HO343.out (fun _ hk => hk.2))), (kR_ (Kd.R_mono HO346.out (fun _ hk => hk.2))), (kB_ BK339.out), (kB_ BK340.out), (kB_ BK347.out), GW347.out, GE347.out, NB339_347.out, NB347_339.out, NB340_347.out, NB347_340.out, bq1_⟩)
  rintro ⟨v342, v345, gb347⟩ w18 ⟨hS_, h0_, h1_, h2_, h3_, h4_, h5_, h6_, h7_, h8_, h9_, h10_, h11_⟩
  have n0_ : Aside0 (Kd.R k72 72 w18 w.heap.size (fun k_ => some k_ ≠ (v345 : Value).ownBlock) v342 t341) := ⟨h0_⟩
  have n1_ : Aside0 (Kd.R k72 72 w18 w.heap.size (fun k_ => some k_ ≠ (v342 : Value).ownBlock) v345 t344) := ⟨h1_⟩
  have n2_ : Aside0 (w18.heap[gb339]? = some (.cells #[.int .i64 a0_0, .bool true, .bool a0_2, .int .i64 a0_3, .string a0_4, .int .i64 a0_5, .slice A0_6 l0_6.length c0_6, .slice A0_7 l0_7.length c0_7] 24 (0, 0))) := ⟨h2_⟩
  have n3_ : Aside0 (w18.heap[gb340]? = some (.cells #[.int .i64 0, .bool false, .bool false, .int .i64 0, .string (⟨#[]⟩ : ByteArray), .int .i64 0, .slice none 0 0, .slice none 0 0] 24 (0, 0))) := ⟨h3_⟩
  have n4_ : Aside0 (w18.heap[gb347]? = some (.cells #[.int .i64 0, .bool false, .bool false, .int .i64 0, .string (⟨#[]⟩ : ByteArray), .int .i64 0, .slice none 0 0, .slice none 0 0] 24 (0, 0))) := ⟨h4_⟩
  have n5_ : Aside0 (w.heap.size ≤ gb347) := ⟨h5_⟩
  have n6_ : Aside0 (w.heap.size ≤ gb347) := ⟨h6_⟩
  have n7_ : Aside0 (gb339 ≠ gb347) := ⟨h7_⟩
  have n8_ : Aside0 (gb347 ≠ gb339) := ⟨h8_⟩
  have n9_ : Aside0 (gb340 ≠ gb347) := ⟨h9_⟩
  have n10_ : Aside0 (gb347 ≠ gb340) := ⟨h10_⟩
  have n11_ : Aside0 (Below w.heap.size w w18) := ⟨h11_⟩
  clear BK339
  clear BK340
  clear HB
  clear h0_ h1_ h2_ h3_ h4_ h5_ h6_ h7_ h8_ h9_ h10_ h11_
  have HO343 := n0_
  have HO346 := n1_
  have BK339 := n2_
  have BK340 := n3_
  have BK347 := n4_
  have GW347 := n5_
  have GE347 := n6_
  have NB339_347 := n7_
  have NB347_339 := n8_
  have NB340_347 := n9_
  have NB347_340 := n10_
  have HB := n11_
  clear n0_ n1_ n2_ n3_ n4_ n5_ n6_ n7_ n8_ n9_ n10_ n11_
  have hHeld : w18.cell? ⟨gb339, 0, none⟩ = some (.int .i64 a0_0) ∧ w18.cell? ⟨gb339, 1, none⟩ = some (.bool true) ∧ w18.cell? ⟨gb339, 2, none⟩ = some (.bool a0_2) ∧ w18.cell? ⟨gb339, 3, none⟩ = some (.int .i64 a0_3) ∧ w18.cell? ⟨gb339, 4, none⟩ = some (.string a0_4) ∧ w18.cell? ⟨gb339, 5, none⟩ = some (.int .i64 a0_5) ∧ w18.cell? ⟨gb339, 6, none⟩ = some (.slice A0_6 l0_6.length c0_6) ∧ w18.cell? ⟨gb339, 7, none⟩ = some (.slice A0_7 l0_7.length c0_7) := hS_
  obtain ⟨Ao19, co19, eo19⟩ := Kd.R_slice HO346.out
  (first | subst eo19 | (injection eo19 with f1_ f2_ f3_; have f4_ := f1_.symm; have f5_ := f3_.symm; clear f1_ f2_ f3_; subst f4_; subst f5_))
  obtain ⟨Ao20, co20, eo20⟩ := Kd.R_slice HO343.out
  (first | subst eo20 | (injection eo20 with f1_ f2_ f3_; have f4_ := f1_.symm; have f5_ := f3_.symm; clear f1_ f2_ f3_; subst f4_; subst f5_))
  refine norm_ (a' := ?_) ?_ ?_
  rotate_left
  · simp only [putAll, Act.put, List.setIfInBounds_toArray, List.set_cons_zero, List.set_cons_succ]
    rfl
  refine one_ (i := 13) (N := none) #[true, true, true, true, true, true, true, true, true, true, true, true, true, true] rfl rfl (one_of HT_.out (by kernel_rfl)) (by decide) (fun K hK => ?_)
  have hs21 : w18.cell? ⟨gb347, 0, none⟩ = some (.int .i64 0) := (blk_cell BK347.out 0).trans rfl
  have hfs21 := blk_frozen BK347.out 0
  have hns21_0 := NB339_347.out
  have hns21_1 := NB340_347.out
  have hms21_0 := NB347_339.out
  have hms21_1 := NB347_340.out
  have hs22 : w18.cell? ⟨gb347, 1, none⟩ = some (.bool false) := (blk_cell BK347.out 1).trans rfl
  have hfs22 := blk_frozen BK347.out 1
  have hns22_0 := NB339_347.out
  have hns22_1 := NB340_347.out
  have hms22_0 := NB347_339.out
  have hms22_1 := NB347_340.out
  have hs23 : w18.cell? ⟨gb347, 2, none⟩ = some (.bool false) := (blk_cell BK347.out 2).trans rfl
  have hfs23 := blk_frozen BK347.out 2
  have hns23_0 := NB339_347.out
  have hns23_1 := NB340_347.out
  have hms23_0 := NB347_339.out
  have hms23_1 := NB347_340.out
  have hs24 : w18.cell? ⟨gb347, 3, none⟩ = some (.int .i64 0) := (blk_cell BK347.out 3).trans rfl
  have hfs24 := blk_frozen BK347.out 3
  have hns24_0 := NB339_347.out
  have hns24_1 := NB340_347.out
  have hms24_0 := NB347_339.out
  have hms24_1 := NB347_340.out
  have hs25 : w18.cell? ⟨gb347, 4, none⟩ = some (.string (⟨#[]⟩ : ByteArray)) := (blk_cell BK347.out 4).trans rfl
  have hfs25 := blk_frozen BK347.out 4
  have hns25_0 := NB339_347.out
  have hns25_1 := NB340_347.out
  have hms25_0 := NB347_339.out
  have hms25_1 := NB347_340.out
  have hs26 : w18.cell? ⟨gb347, 5, none⟩ = some (.int .i64 0) := (blk_cell BK347.out 5).trans rfl
  have hfs26 := blk_frozen BK347.out 5
  have hns26_0 := NB339_347.out
  have hns26_1 := NB340_347.out
  have hms26_0 := NB347_339.out
  have hms26_1 := NB347_340.out
  have hs27 : w18.cell? ⟨gb347, 6, none⟩ = some (.slice none 0 0) := (blk_cell BK347.out 6).trans rfl
  have hfs27 := blk_frozen BK347.out 6
  have hns27_0 := NB339_347.out
  have hns27_1 := NB340_347.out
  have hms27_0 := NB347_339.out
  have hms27_1 := NB347_340.out
  have hs28 : w18.cell? ⟨gb347, 7, none⟩ = some (.slice none 0 0) := (blk_cell BK347.out 7).trans rfl
  have hfs28 := blk_frozen BK347.out 7
  have hns28_0 := NB339_347.out
  have hns28_1 := NB340_347.out
  have hms28_0 := NB347_339.out
  have hms28_1 := NB347_340.out
  refine skip_ (w1 := ?_) (by rfl) rfl ?_ ?_
  rotate_left
  · go_simp
    rfl
  refine hK.out _ _ ⟨((cell_far (p := ⟨gb347, _, none⟩) NB339_347.out _).trans (((cell_far (p := ⟨gb347, _, none⟩) NB339_347.out _).trans (((cell_far (p := ⟨gb347, _, none⟩) NB339_347.out _).trans (((cell_far (p := ⟨gb347, _, none⟩) NB339_347.out _).trans (((cell_far (p := ⟨gb347, _, none⟩) NB339_347.out _).trans (((cell_far (p := ⟨gb347, _, none⟩) NB339_347.out _).trans (((cell_far (p := ⟨gb347, _, none⟩) NB339_347.out _).trans (((cell_far (p := ⟨gb347, _, none⟩) NB339_347.out _).trans (hHeld.1)))))))))))))))), ((cell_far (p := ⟨gb347, _, none⟩) NB339_347.out _).trans (((cell_far (p := ⟨gb347, _, none⟩) NB339_347.out _).trans (((cell_far (p := ⟨gb347, _, none⟩) NB339_347.out _).trans (((cell_far (p := ⟨gb347, _, none⟩) NB339_347.out _).trans (((cell_far (p := ⟨gb347, _, none⟩) NB339_347.out _).trans (((cell_far (p := ⟨gb347, _, none⟩) NB339_347.out _).trans (((cell_far (p := ⟨gb347, _, none⟩) NB339_347.out _).trans (((cell_far (p := ⟨gb347, _, none⟩) NB339_347.out _).trans (hHeld.2.1)))))))))))))))), ((cell_far (p := ⟨gb347, _, none⟩) NB339_347.out _).trans (((cell_far (p := ⟨gb347, _, none⟩) NB339_347.out _).trans (((cell_far (p := ⟨gb347, _, none⟩) NB339_347.out _).trans (((cell_far (p := ⟨gb347, _, none⟩) NB339_347.out _).trans (((cell_far (p := ⟨gb347, _, none⟩) NB339_347.out _).trans (((cell_far (p := ⟨gb347, _, none⟩) NB339_347.out _).trans (((cell_far (p := ⟨gb347, _, none⟩) NB339_347.out _).trans (((cell_far (p := ⟨gb347, _, none⟩) NB339_347.out _).trans (hHeld.2.2.1)))))))))))))))), ((cell_far (p := ⟨gb347, _, none⟩) NB339_347.out _).trans (((cell_far (p := ⟨gb347, _, none⟩) NB339_347.out _).trans (((cell_far (p := ⟨gb347, _, none⟩) NB339_347.out _).trans (((cell_far (p := ⟨gb347, _, none⟩) NB339_347.out _).trans (((cell_far (p := ⟨gb347, _, none⟩) NB339_347.out _).trans (((cell_far (p := ⟨gb347, _, none⟩) NB339_347.out _).trans (((cell_far (p := ⟨gb347, _, none⟩) NB339_347.out _).trans (((cell_far (p := ⟨gb347, _, none⟩) NB339_347.out _).trans (hHeld.2.2.2.1)))))))))))))))), ((cell_far (p := ⟨gb347, _, none⟩) NB339_347.out _).trans (((cell_far (p := ⟨gb347, _, none⟩) NB339_347.out _).trans (((cell_far (p := ⟨gb347, _, none⟩) NB339_347.out _).trans (((cell_far (p := ⟨gb347, _, none⟩) NB339_347.out _).trans (((cell_far (p := ⟨gb347, _, none⟩) NB339_347.out _).trans (((cell_far (p := ⟨gb347, _, none⟩) NB339_347.out _).trans (((cell_far (p := ⟨gb347, _, none⟩) NB339_347.out _).trans (((cell_far (p := ⟨gb347, _, none⟩) NB339_347.out _).trans (hHeld.2.2.2.2.1)))))))))))))))), ((cell_far (p := ⟨gb347, _, none⟩) NB339_347.out _).trans (((cell_far (p := ⟨gb347, _, none⟩) NB339_347.out _).trans (((cell_far (p := ⟨gb347, _, none⟩) NB339_347.out _).trans (((cell_far (p := ⟨gb347, _, none⟩) NB339_347.out _).trans (((cell_far (p := ⟨gb347, _, none⟩) NB339_347.out _).trans (((cell_far (p := ⟨gb347, _, none⟩) NB339_347.out _).trans (((cell_far (p := ⟨gb347, _, none⟩) NB339_347.out _).trans (((cell_far (p := ⟨gb347, _, none⟩) NB339_347.out _).trans (hHeld.2.2.2.2.2.1)))))))))))))))), ((cell_far (p := ⟨gb347, _, none⟩) NB339_347.out _).trans (((cell_far (p := ⟨gb347, _, none⟩) NB339_347.out _).trans (((cell_far (p := ⟨gb347, _, none⟩) NB339_347.out _).trans (((cell_far (p := ⟨gb347, _, none⟩) NB339_347.out _).trans (((cell_far (p := ⟨gb347, _, none⟩) NB339_347.out _).trans (((cell_far (p := ⟨gb347, _, none⟩) NB339_347.out _).trans (((cell_far (p := ⟨gb347, _, none⟩) NB339_347.out _).trans (((cell_far (p := ⟨gb347, _, none⟩) NB339_347.out _).trans (hHeld.2.2.2.2.2.2.1)))))))))))))))), ((cell_far (p := ⟨gb347, _, none⟩) NB339_347.out _).trans (((cell_far (p := ⟨gb347, _, none⟩) NB339_347.out _).trans (((cell_far (p := ⟨gb347, _, none⟩) NB339_347.out _).trans (((cell_far (p := ⟨gb347, _, none⟩) NB339_347.out _).trans (((cell_far (p := ⟨gb347, _, none⟩) NB339_347.out _).trans (((cell_far (p := ⟨gb347, _, none⟩) NB339_347.out _).trans (((cell_far (p := ⟨gb347, _, none⟩) NB339_347.out _).trans (((cell_far (p := ⟨gb347, _, none⟩) NB339_347.out _).trans (hHeld.2.2.2.2.2.2.2))))))))))))))))⟩ (fun hHeld => ?_)
  clear hK K
  refine done_ (done_of HT_.out (by kernel_rfl)) ?_
  have hnb29 := NB339_340.out
  have hnc29 := NB340_339.out
  have hnb30 := NB339_347.out
  have hnc30 := NB347_339.out
  have z31_0 : w18.cell? ⟨gb339, 0, none⟩ = some (.int .i64 a0_0) := (blk_cell BK339.out 0).trans rfl
  have z31_1 : w18.cell? ⟨gb339, 1, none⟩ = some (.bool true) := (blk_cell BK339.out 1).trans rfl
  have z31_2 : w18.cell? ⟨gb339, 2, none⟩ = some (.bool a0_2) := (blk_cell BK339.out 2).trans rfl
  have z31_3 : w18.cell? ⟨gb339, 3, none⟩ = some (.int .i64 a0_3) := (blk_cell BK339.out 3).trans rfl
  have z31_4 : w18.cell? ⟨gb339, 4, none⟩ = some (.string a0_4) := (blk_cell BK339.out 4).trans rfl
  have z31_5 : w18.cell? ⟨gb339, 5, none⟩ = some (.int .i64 a0_5) := (blk_cell BK339.out 5).trans rfl
  have z31_6 : w18.cell? ⟨gb339, 6, none⟩ = some (.slice A0_6 l0_6.length c0_6) := (blk_cell BK339.out 6).trans rfl
  have z31_7 : w18.cell? ⟨gb339, 7, none⟩ = some (.slice A0_7 l0_7.length c0_7) := (blk_cell BK339.out 7).trans rfl
  have q31_0 := blk_frozen BK339.out 0
  have q31_1 := blk_frozen BK339.out 1
  have q31_2 := blk_frozen BK339.out 2
  have q31_3 := blk_frozen BK339.out 3
  have q31_4 := blk_frozen BK339.out 4
  have q31_5 := blk_frozen BK339.out 5
  have q31_6 := blk_frozen BK339.out 6
  have q31_7 := blk_frozen BK339.out 7
  try go_wp2_with (first | ((with_reducible refine gate_callee (f := 49) rfl ?_); refine goesL_ (some 24) rfl rfl Tryz.func49 (by kernel_rfl) rfl #[.agg #[.int .i64 a0_0, .bool true, .bool a0_2, .int .i64 a0_3, .string a0_4, .int .i64 a0_5, .slice A0_6 l0_6.length c0_6, .slice A0_7 l0_7.length c0_7]] rfl argsS_ ?_; (with_reducible refine (impl_GoodMessage.calls k a0_0 true a0_2 a0_3 a0_4 a0_5 _ _ l0_6 _ _ l0_7 true _ ?side1 ?side2 ?side3 ?side4 A7.out).mono ?_); (case side1 => exact Kd.C_below HR0_6.out bq1_); (case side2 => exact HC0_6.out); (case side3 => exact Kd.C_below HR0_7.out bq1_); (case side4 => exact HC0_7.out); rintro e w32 ⟨rfl, hb⟩; refine ⟨_, rfl, ?_⟩; replace HO343 := a0_ (Kd.R_below (kR_ (farR8_ HO343.out BK347.out)) hb); replace HO346 := a0_ (Kd.R_below (kR_ (farR8_ HO346.out BK347.out)) hb); replace BK339 := a0_ (blk_below (g := gb339) (o := .cells #[.int .i64 a0_0, .bool true, .bool a0_2, .int .i64 a0_3, .string a0_4, .int .i64 a0_5, .slice A0_6 l0_6.length c0_6, .slice A0_7 l0_7.length c0_7] 24 (0, 0)) (bfar8_ NB339_347.out BK339.out) hb); replace BK340 := a0_ (blk_below (g := gb340) (o := .cells #[.int .i64 0, .bool false, .bool false, .int .i64 0, .string (⟨#[]⟩ : ByteArray), .int .i64 0, .slice none 0 0, .slice none 0 0] 24 (0, 0)) (bfar8_ NB340_347.out BK340.out) hb); replace BK347 := a0_ (blk_below (g := gb347) (o := .cells #[.int .i64 a0_0, .bool true, .bool false, .int .i64 a1, .string a0_4, .int .i64 a0_5, .slice Ao20 t341.length co20, .slice Ao19 t344.length co19] 24 (0, 0)) (put8_ BK347.out) hb); replace HB := a0_ (below_step bq1_ hb); (try clear hb); (try clear hb2); (try clear hk); (try clear hi); obtain ⟨z33_0, z33_1, z33_2, z33_3, z33_4, z33_5, z33_6, z33_7, q33_0, q33_1, q33_2, q33_3, q33_4, q33_5, q33_6, q33_7⟩ := bk8_ BK339.out; have hnb34 := NB340_347.out; have hnc34 := NB347_340.out; obtain ⟨z35_0, z35_1, z35_2, z35_3, z35_4, z35_5, z35_6, z35_7, q35_0, q35_1, q35_2, q35_3, q35_4, q35_5, q35_6, q35_7⟩ := bk8_ BK340.out))
  refine bodyPost_ret (results_ct rfl _ _ gb340 24 #[.int .i64 0, .bool false, .bool false, .int .i64 0, .string (⟨#[]⟩ : ByteArray), .int .i64 0, .slice none 0 0, .slice none 0 0] (0, 0) _ rfl (put8_ BK340.out) Tryz.underlying24 rfl (by kernel_rfl)) rfl ?_
  exact ⟨_, _, rr_, by first | exact Kd.R_nil _ _ _ _ _ | exact Kd.N_nil _ _ _ _ _ | exact Kd.V_nil _ _ _ _ _ | exact Kd.Q_nil _ _ _ _ _ | exact Kd.S_nil _ _ _ _ _, by first | exact Kd.R_nil _ _ _ _ _ | exact Kd.N_nil _ _ _ _ _ | exact Kd.V_nil _ _ _ _ _ | exact Kd.Q_nil _ _ _ _ _ | exact Kd.S_nil _ _ _ _ _, bq1_⟩
 replace c9 := Bool.eq_false_iff.mpr c9
 subst c9
 rw [if_neg (show ¬ (false = true) by decide)] at H
 obtain ⟨t349, A360, H⟩ := Option.bind_eq_some_iff.mp H
 have A36 := a0_ A360
 clear A360
 by_cases c37 : t349 = true
 case pos =>
  subst c37
  rw [if_pos rfl] at H
  simp only [Option.some.injEq, Prod.mk.injEq] at H
  obtain ⟨rfl, rfl, rfl, rfl, rfl, rfl, rfl, rfl, rfl⟩ := H
  go_enter Tryz.func22, Tryz.ntmps22
  try go_wp2_with (first | ((with_reducible refine gate_dst (N := 4) rfl ?_); refine boxS_ 4 #[.int .i64 a0_0, .bool false, .bool a0_2, .int .i64 a0_3, .string a0_4, .int .i64 a0_5, .slice A0_6 l0_6.length c0_6, .slice A0_7 l0_7.length c0_7] 24 (fun gb339 hg w38 hbox hb => ?_); have n0_ := a0_ (below_step bq0_ hb); have n1_ := a0_ (hbox); have n2_ := a0_ (gw_ hg : w.heap.size ≤ gb339); have n3_ := n2_; clear HB; have HB := n0_; have BK339 := n1_; have GW339 := n2_; have GE339 := n3_; clear n0_ n1_ n2_ n3_; clear hb hbox hg) | ((with_reducible refine gate_dst (N := 8) rfl ?_); refine boxS_ 8 #[.int .i64 0, .bool false, .bool false, .int .i64 0, .string (⟨#[]⟩ : ByteArray), .int .i64 0, .slice none 0 0, .slice none 0 0] 24 (fun gb340 hg w39 hbox hb => ?_); have n0_ := a0_ (bkB_ BK339 hb); have n1_ := a0_ (below_step bq1_ hb); have n2_ := a0_ (hbox); have n3_ := a0_ (gw_ hg (below_size bq1_) : w.heap.size ≤ gb340); have n4_ := n3_; have n5_ := a0_ ((by rw [hg]; exact Nat.ne_of_lt (blk_lt (g := gb339) (o := .cells #[.int .i64 a0_0, .bool false, .bool a0_2, .int .i64 a0_3, .string a0_4, .int .i64 a0_5, .slice A0_6 l0_6.length c0_6, .slice A0_7 l0_7.length c0_7] 24 (0, 0)) (kB_ BK339.out)) : gb339 ≠ gb340)); have n6_ := a0_ ((by rw [hg]; exact Nat.ne_of_gt (blk_lt (g := gb339) (o := .cells #[.int .i64 a0_0, .bool false, .bool a0_2, .int .i64 a0_3, .string a0_4, .int .i64 a0_5, .slice A0_6 l0_6.length c0_6, .slice A0_7 l0_7.length c0_7] 24 (0, 0)) (kB_ BK339.out)) : gb340 ≠ gb339)); clear BK339; clear HB; have BK339 := n0_; have HB := n1_; have BK340 := n2_; have GW340 := n3_; have GE340 := n4_; have NB339_340 := n5_; have NB340_339 := n6_; clear n0_ n1_ n2_ n3_ n4_ n5_ n6_; clear hb hbox hg))
  replace BK339 := a0_ (blk_drew BK339.out)
  replace BK340 := a0_ (blk_drew BK340.out)
  replace HB := a0_ (below_drew1 HB.out)
  refine start_ (n := 14) (S := fun w' => w'.cell? ⟨gb339, 0, none⟩ = some (.int .i64 a0_0) ∧ w'.cell? ⟨gb339, 1, none⟩ = some (.bool false) ∧ w'.cell? ⟨gb339, 2, none⟩ = some (.bool a0_2) ∧ w'.cell? ⟨gb339, 3, none⟩ = some (.int .i64 a0_3) ∧ w'.cell? ⟨gb339, 4, none⟩ = some (.string a0_4) ∧ w'.cell? ⟨gb339, 5, none⟩ = some (.int .i64 a0_5) ∧ w'.cell? ⟨gb339, 6, none⟩ = some (.slice A0_6 l0_6.length c0_6) ∧ w'.cell? ⟨gb339, 7, none⟩ = some (.slice A0_7 l0_7.length c0_7)) (ds := []) #[false, false, false, false, false, false, false, false, false, false, false, false, false, false] (by kernel_rfl) rfl rfl ⟨(blk_cell BK339.out 0).trans rfl, (blk_cell BK339.out 1).trans rfl, (blk_cell BK339.out 2).trans rfl, (blk_cell BK339.out 3).trans rfl, (blk_cell BK339.out 4).trans rfl, (blk_cell BK339.out 5).trans rfl, (blk_cell BK339.out 6).trans rfl, (blk_cell BK339.out 7).trans rfl⟩ (fun hHeld => ?_); refine with_tabW impl_ReplyTo.tab1 impl_ReplyTo.bits1 (fun HT_ HW_ => ?_)
  generalize w39.drew = w40 at BK339 BK340 HB hHeld ⊢
  refine pure_ (i := 0) (N := some 11) (v := ?_) (a' := ?_) #[true, false, false, false, false, false, false, false, false, false, false, false, false, false] rfl rfl (any_of HT_.out (by kernel_rfl)) (fun _ _ _ h => h) (Or.inl ⟨by rfl, ?_⟩) ?_ ?_
  rotate_left
  · intro w'
    go_simp
    with_reducible rfl
  rotate_left
  · simp only [Act.put, List.setIfInBounds_toArray, List.set_cons_zero, List.set_cons_succ, i64_w, i32_w]
    rfl
  refine pure_ (i := 2) (N := some 13) (v := ?_) (a' := ?_) #[true, false, true, false, false, false, false, false, false, false, false, false, false, false] rfl rfl (any_of HT_.out (by kernel_rfl)) (fun _ _ _ h => h) (Or.inl ⟨by rfl, ?_⟩) ?_ ?_
  rotate_left
  · intro w'
    go_simp
    with_reducible rfl
  rotate_left
  · simp only [Act.put, List.setIfInBounds_toArray, List.set_cons_zero, List.set_cons_succ, i64_w, i32_w]
    rfl
  refine pure_ (i := 3) (N := some 14) (v := ?_) (a' := ?_) #[true, false, true, true, false, false, false, false, false, false, false, false, false, false] rfl rfl (any_of HT_.out (by kernel_rfl)) (fun _ _ _ h => h) (Or.inl ⟨by rfl, ?_⟩) ?_ ?_
  rotate_left
  · intro w'
    go_simp
    with_reducible rfl
  rotate_left
  · simp only [Act.put, List.setIfInBounds_toArray, List.set_cons_zero, List.set_cons_succ, i64_w, i32_w]
    rfl
  refine pure_ (i := 5) (N := some 16) (v := ?_) (a' := ?_) #[true, false, true, true, false, true, false, false, false, false, false, false, false, false] rfl rfl (any_of HT_.out (by kernel_rfl)) (fun _ _ _ h => h) (Or.inl ⟨by rfl, ?_⟩) ?_ ?_
  rotate_left
  · intro w'
    go_simp
    with_reducible rfl
  rotate_left
  · simp only [Act.put, List.setIfInBounds_toArray, List.set_cons_zero, List.set_cons_succ, i64_w, i32_w]
    rfl
  refine pure_ (i := 7) (N := some 18) (v := ?_) (a' := ?_) #[true, false, true, true, false, true, false, true, false, false, false, false, false, false] rfl rfl (any_of HT_.out (by kernel_rfl)) (fun _ _ _ h => h) (Or.inl ⟨by rfl, ?_⟩) ?_ ?_
  rotate_left
  · intro w'
    go_simp
    with_reducible rfl
  rotate_left
  · simp only [Act.put, List.setIfInBounds_toArray, List.set_cons_zero, List.set_cons_succ, i64_w, i32_w]
    rfl
  refine pure_ (i := 9) (N := some 20) (v := ?_) (a' := ?_) #[true, false, true, true, false, true, false, true, false, true, false, false, false, false] rfl rfl (any_of HT_.out (by kernel_rfl)) (fun _ _ _ h => h) (Or.inl ⟨by rfl, ?_⟩) ?_ ?_
  rotate_left
  · intro w'
    go_simp
    with_reducible rfl
  rotate_left
  · simp only [Act.put, List.setIfInBounds_toArray, List.set_cons_zero, List.set_cons_succ, i64_w, i32_w]
    rfl
  refine take_ (i := 1) (N := some 12) (v := ?_) (a' := ?_) #[true, true, true, true, false, true, false, true, false, true, false, false, false, false] rfl rfl (take_ofW HT_.out HW_.out (by kernel_rfl)) (fun _ _ _ h => h) (Or.inl ⟨by rfl, ?_⟩) hHeld ?_ ?_
  rotate_left
  · rintro w' ⟨s0, s1, s2, s3, s4, s5, s6, s7⟩
    go_simp
    with_reducible rfl
  rotate_left
  · simp only [Act.put, List.setIfInBounds_toArray, List.set_cons_zero, List.set_cons_succ, i64_w, i32_w]
    rfl
  refine take_ (i := 4) (N := some 15) (v := ?_) (a' := ?_) #[true, true, true, true, true, true, false, true, false, true, false, false, false, false] rfl rfl (take_ofW HT_.out HW_.out (by kernel_rfl)) (fun _ _ _ h => h) (Or.inl ⟨by rfl, ?_⟩) hHeld ?_ ?_
  rotate_left
  · rintro w' ⟨s0, s1, s2, s3, s4, s5, s6, s7⟩
    go_simp
    with_reducible rfl
  rotate_left
  · simp only [Act.put, List.setIfInBounds_toArray, List.set_cons_zero, List.set_cons_succ, i64_w, i32_w]
    rfl
  refine take_ (i := 6) (N := some 17) (v := ?_) (a' := ?_) #[true, true, true, true, true, true, true, true, false, true, false, false, false, false] rfl rfl (take_ofW HT_.out HW_.out (by kernel_rfl)) (fun _ _ _ h => h) (Or.inl ⟨by rfl, ?_⟩) hHeld ?_ ?_
  rotate_left
  · rintro w' ⟨s0, s1, s2, s3, s4, s5, s6, s7⟩
    go_simp
    with_reducible rfl
  rotate_left
  · simp only [Act.put, List.setIfInBounds_toArray, List.set_cons_zero, List.set_cons_succ, i64_w, i32_w]
    rfl
  refine join_ (σ := Value × Value × Nat) 1 #[true, true, true, true, true, true, true, true, true, true, true, true, true, false] (fun s_ => [(19, s_.1), (21, s_.2.1), (10, .pointer (some ⟨s_.2.2, 0, none⟩)), (22, .agg #[.int .i64 a0_0, .bool true, .bool false, .int .i64 a1, .string a0_4, .int .i64 a0_5, s_.1, s_.2.1])]) (fun s_ w' => (w'.cell? ⟨gb339, 0, none⟩ = some (.int .i64 a0_0) ∧ w'.cell? ⟨gb339, 1, none⟩ = some (.bool false) ∧ w'.cell? ⟨gb339, 2, none⟩ = some (.bool a0_2) ∧ w'.cell? ⟨gb339, 3, none⟩ = some (.int .i64 a0_3) ∧ w'.cell? ⟨gb339, 4, none⟩ = some (.string a0_4) ∧ w'.cell? ⟨gb339, 5, none⟩ = some (.int .i64 a0_5) ∧ w'.cell? ⟨gb339, 6, none⟩ = some (.slice A0_6 l0_6.length c0_6) ∧ w'.cell? ⟨gb339, 7, none⟩ = some (.slice A0_7 l0_7.length c0_7)) ∧ (Kd.R k72 72 w' w.heap.size (fun k_ => some k_ ≠ (s_.2.1 : Value).ownBlock) s_.1 t341) ∧ (Kd.R k72 72 w' w.heap.size (fun k_ => some k_ ≠ (s_.1 : Value).ownBlock) s_.2.1 t344) ∧ (w'.heap[gb339]? = some (.cells #[.int .i64 a0_0, .bool false, .bool a0_2, .int .i64 a0_3, .string a0_4, .int .i64 a0_5, .slice A0_6 l0_6.length c0_6, .slice A0_7 l0_7.length c0_7] 24 (0, 0))) ∧ (w'.heap[gb340]? = some (.cells #[.int .i64 0, .bool false, .bool false, .int .i64 0, .string (⟨#[]⟩ : ByteArray), .int .i64 0, .slice none 0 0, .slice none 0 0] 24 (0, 0))) ∧ (w'.heap[s_.2.2]? = some (.cells #[.int .i64 0, .bool false, .bool false, .int .i64 0, .string (⟨#[]⟩ : ByteArray), .int .i64 0, .slice none 0 0, .slice none 0 0] 24 (0, 0))) ∧ (w.heap.size ≤ s_.2.2) ∧ (w.heap.size ≤ s_.2.2) ∧ (gb339 ≠ s_.2.2) ∧ (s_.2.2 ≠ gb339) ∧ (gb340 ≠ s_.2.2) ∧ (s_.2.2 ≠ gb340) ∧ (Below w.heap.size w w')) ?_ ?_
  rotate_left
  · intro hCont
    refine two_ (i := 8) (j := 12) (Ni := some 19) (Nj := some 10) #[true, true, true, true, true, true, true, true, true, true, false, false, false, false] #[true, true, true, true, true, true, true, true, false, true, false, false, true, false] rfl rfl rfl rfl (two_of HT_.out (by kernel_rfl)) (by decide) (by decide) (fun K hK => ?_) (fun K hK => ?_)
    · skip
      refine goes_ Tryz.func52 (by kernel_rfl) rfl #[.slice A2 l2.length c2] (by rfl) rfl rfl argsS_ ?_
      with_reducible refine (slices_Clone_rec.calls _ _ l2 t341 _ ?side1 ?side2 A5.out).mono ?_
      (case side1 => exact kC_ HR2.out HB.out)
      (case side2 => exact HC2.out)
      rintro e w41 ⟨v342, rfl, ho0, hb⟩
      refine ⟨_, rfl, ?_⟩
      have HO343 := a0_ (Kd.R_lower ho0 (below_size bq1_))
      replace BK339 := a0_ (bkB_ BK339 hb)
      replace BK340 := a0_ (bkB_ BK340 hb)
      replace HB := a0_ (below_step bq1_ hb)
      (try clear hb)
      (try clear hb2)
      (try clear hk)
      (try clear hi)
      (try clear ho0)
      refine hK.out _ _ ⟨(blk_cell BK339.out 0).trans rfl, (blk_cell BK339.out 1).trans rfl, (blk_cell BK339.out 2).trans rfl, (blk_cell BK339.out 3).trans rfl, (blk_cell BK339.out 4).trans rfl, (blk_cell BK339.out 5).trans rfl, (blk_cell BK339.out 6).trans rfl, (blk_cell BK339.out 7).trans rfl⟩ (fun hHeld => ?_)
      clear hK K
      refine norm_ (a' := ?_) ?_ ?_
      rotate_left
      · show Act.put _ (some 19) _ = _
        simp only [Act.put, List.setIfInBounds_toArray, List.set_cons_zero, List.set_cons_succ, i64_w, i32_w]
        rfl
      refine two_ (i := 10) (j := 12) (Ni := some 21) (Nj := some 10) #[true, true, true, true, true, true, true, true, true, true, true, false, false, false] #[true, true, true, true, true, true, true, true, true, true, false, false, true, false] rfl rfl rfl rfl (two_of HT_.out (by kernel_rfl)) (by decide) (by decide) (fun K hK => ?_) (fun K hK => ?_)
      · skip
        refine goes_ Tryz.func52 (by kernel_rfl) rfl #[.slice A3 l3.length c3] (by rfl) rfl rfl argsS_ ?_
        with_reducible refine (slices_Clone_rec.calls _ _ l3 t344 _ ?side1 ?side2 A6.out).mono ?_
        (case side1 => exact kC_ HR3.out HB.out)
        (case side2 => exact HC3.out)
        rintro e w42 ⟨v345, rfl, ho0, hb⟩
        refine ⟨_, rfl, ?_⟩
        have n0_ := a0_ (Kd.R_elder' (kR_ HO343.out) (Kd.R_base ho0) hb)
        have n1_ := a0_ (Kd.R_lower (Kd.R_new' ho0 (Kd.R_lt (kR_ HO343.out))) (below_size bq1_))
        have n2_ := a0_ (bkB_ BK339 hb)
        have n3_ := a0_ (bkB_ BK340 hb)
        have n4_ := a0_ (below_step bq1_ hb)
        clear HO343
        clear BK339
        clear BK340
        clear HB
        have HO343 := n0_
        have HO346 := n1_
        have BK339 := n2_
        have BK340 := n3_
        have HB := n4_
        clear n0_ n1_ n2_ n3_ n4_
        (try clear hb)
        (try clear hb2)
        (try clear hk)
        (try clear hi)
        (try clear ho0)
        obtain ⟨Ao43, co43, eo43⟩ := Kd.R_slice HO346.out
        (first | subst eo43 | (injection eo43 with f1_ f2_ f3_; have f4_ := f1_.symm; have f5_ := f3_.symm; clear f1_ f2_ f3_; subst f4_; subst f5_))
        obtain ⟨Ao44, co44, eo44⟩ := Kd.R_slice HO343.out
        (first | subst eo44 | (injection eo44 with f1_ f2_ f3_; have f4_ := f1_.symm; have f5_ := f3_.symm; clear f1_ f2_ f3_; subst f4_; subst f5_))
        refine hK.out _ _ ⟨(blk_cell BK339.out 0).trans rfl, (blk_cell BK339.out 1).trans rfl, (blk_cell BK339.out 2).trans rfl, (blk_cell BK339.out 3).trans rfl, (blk_cell BK339.out 4).trans rfl, (blk_cell BK339.out 5).trans rfl, (blk_cell BK339.out 6).trans rfl, (blk_cell BK339.out 7).trans rfl⟩ (fun hHeld => ?_)
        clear hK K
        refine norm_ (a' := ?_) ?_ ?_
        rotate_left
        · show Act.put _ (some 21) _ = _
          simp only [Act.put, List.setIfInBounds_toArray, List.set_cons_zero, List.set_cons_succ, i64_w, i32_w]
          rfl
        refine pure_ (i := 11) (N := some 22) (v := ?_) (a' := ?_) #[true, true, true, true, true, true, true, true, true, true, true, true, false, false] rfl rfl (any_of HT_.out (by kernel_rfl)) (fun _ _ _ h => h) (Or.inl ⟨by rfl, ?_⟩) ?_ ?_
        rotate_left
        · intro w'
          go_simp
          with_reducible rfl
        rotate_left
        · simp only [Act.put, List.setIfInBounds_toArray, List.set_cons_zero, List.set_cons_succ, i64_w, i32_w]
          rfl
        refine one_ (i := 12) (N := some 10) #[true, true, true, true, true, true, true, true, true, true, true, true, true, false] rfl rfl (one_of HT_.out (by kernel_rfl)) (by decide) (fun K hK => ?_)
        refine box_step ?hg (N := 10) ?hd (cs := #[.int .i64 0, .bool false, .bool false, .int .i64 0, .string (⟨#[]⟩ : ByteArray), .int .i64 0, .slice none 0 0, .slice none 0 0]) (t := 24) ?hr ?_; (case hd => rfl); (case hg => rfl); (case hr => first | (go_simp; done) | (go_simp; rfl))
        intro gb347 hg w45 hbox hb
        have n0_ := a0_ (Kd.R_below (kR_ HO343.out) hb)
        have n1_ := a0_ (Kd.R_below (kR_ HO346.out) hb)
        have n2_ := a0_ (bkB_ BK339 hb)
        have n3_ := a0_ (bkB_ BK340 hb)
        have n4_ := a0_ (below_step bq1_ hb)
        have n5_ := a0_ (hbox)
        have n6_ := a0_ ((by rw [hg]; exact (below_size bq1_) : w.heap.size ≤ gb347))
        have n7_ := a0_ ((by rw [hg]; exact (below_size bq1_) : w.heap.size ≤ gb347))
        have n8_ := a0_ ((by rw [hg]; exact Nat.ne_of_lt (blk_lt (g := gb339) (o := .cells #[.int .i64 a0_0, .bool false, .bool a0_2, .int .i64 a0_3, .string a0_4, .int .i64 a0_5, .slice A0_6 l0_6.length c0_6, .slice A0_7 l0_7.length c0_7] 24 (0, 0)) (kB_ BK339.out)) : gb339 ≠ gb347))
        have n9_ := a0_ ((by rw [hg]; exact Nat.ne_of_gt (blk_lt (g := gb339) (o := .cells #[.int .i64 a0_0, .bool false, .bool a0_2, .int .i64 a0_3, .string a0_4, .int .i64 a0_5, .slice A0_6 l0_6.length c0_6, .slice A0_7 l0_7.length c0_7] 24 (0, 0)) (kB_ BK339.out)) : gb347 ≠ gb339))
        have n10_ := a0_ ((by rw [hg]; exact Nat.ne_of_lt (blk_lt (g := gb340) (o := .cells #[.int .i64 0, .bool false, .bool false, .int .i64 0, .string (⟨#[]⟩ : ByteArray), .int .i64 0, .slice none 0 0, .slice none 0 0] 24 (0, 0)) (kB_ BK340.out)) : gb340 ≠ gb347))
        have n11_ := a0_ ((by rw [hg]; exact Nat.ne_of_gt (blk_lt (g := gb340) (o := .cells #[.int .i64 0, .bool false, .bool false, .int .i64 0, .string (⟨#[]⟩ : ByteArray), .int .i64 0, .slice none 0 0, .slice none 0 0] 24 (0, 0)) (kB_ BK340.out)) : gb347 ≠ gb340))
        clear HO343
        clear HO346
        clear BK339
        clear BK340
        clear HB
        have HO343 := n0_
        have HO346 := n1_
        have BK339 := n2_
        have BK340 := n3_
        have HB := n4_
        have BK347 := n5_
        have GW347 := n6_
        have GE347 := n7_
        have NB339_347 := n8_
        have NB347_339 := n9_
        have NB340_347 := n10_
        have NB347_340 := n11_
        clear n0_ n1_ n2_ n3_ n4_ n5_ n6_ n7_ n8_ n9_ n10_ n11_
        clear hb hbox hg
        refine hK.out _ _ ⟨(blk_cell BK339.out 0).trans rfl, (blk_cell BK339.out 1).trans rfl, (blk_cell BK339.out 2).trans rfl, (blk_cell BK339.out 3).trans rfl, (blk_cell BK339.out 4).trans rfl, (blk_cell BK339.out 5).trans rfl, (blk_cell BK339.out 6).trans rfl, (blk_cell BK339.out 7).trans rfl⟩ (fun hHeld => ?_)
        clear hK K
        refine norm_ (a' := ?_) ?_ ?_
        rotate_left
        · show Act.put _ (some 10) _ = _
          simp only [Act.put, List.setIfInBounds_toArray, List.set_cons_zero, List.set_cons_succ, i64_w, i32_w]
          rfl
        exact norm_ (by simp only [putAll, Act.put, List.setIfInBounds_toArray, List.set_cons_zero, List.set_cons_succ]) (hCont (.slice Ao44 t341.length co44, .slice Ao43 t344.length co43, gb347) _ ⟨hHeld, (kR_ (Kd.R_mono HO343.out (fun _ hk => hk.2))), (kR_ (Kd.R_mono HO346.out (fun _ hk => hk.2))), (kB_ BK339.out), (kB_ BK340.out), (kB_ BK347.out), GW347.out, GE347.out, NB339_347.out, NB347_339.out, NB340_347.out, NB347_340.out, bq1_⟩)
      · skip
        refine box_step ?hg (N := 10) ?hd (cs := #[.int .i64 0, .bool false, .bool false, .int .i64 0, .string (⟨#[]⟩ : ByteArray), .int .i64 0, .slice none 0 0, .slice none 0 0]) (t := 24) ?hr ?_; (case hd => rfl); (case hg => rfl); (case hr => first | (go_simp; done) | (go_simp; rfl))
        intro gb347 hg w42 hbox hb
        have n0_ := a0_ (Kd.R_below (kR_ HO343.out) hb)
        have n1_ := a0_ (bkB_ BK339 hb)
        have n2_ := a0_ (bkB_ BK340 hb)
        have n3_ := a0_ (below_step bq1_ hb)
        have n4_ := a0_ (hbox)
        have n5_ := a0_ ((by rw [hg]; exact (below_size bq1_) : w.heap.size ≤ gb347))
        have n6_ := a0_ ((by rw [hg]; exact (below_size bq1_) : w.heap.size ≤ gb347))
        have n7_ := a0_ ((by rw [hg]; exact Nat.ne_of_lt (blk_lt (g := gb339) (o := .cells #[.int .i64 a0_0, .bool false, .bool a0_2, .int .i64 a0_3, .string a0_4, .int .i64 a0_5, .slice A0_6 l0_6.length c0_6, .slice A0_7 l0_7.length c0_7] 24 (0, 0)) (kB_ BK339.out)) : gb339 ≠ gb347))
        have n8_ := a0_ ((by rw [hg]; exact Nat.ne_of_gt (blk_lt (g := gb339) (o := .cells #[.int .i64 a0_0, .bool false, .bool a0_2, .int .i64 a0_3, .string a0_4, .int .i64 a0_5, .slice A0_6 l0_6.length c0_6, .slice A0_7 l0_7.length c0_7] 24 (0, 0)) (kB_ BK339.out)) : gb347 ≠ gb339))
        have n9_ := a0_ ((by rw [hg]; exact Nat.ne_of_lt (blk_lt (g := gb340) (o := .cells #[.int .i64 0, .bool false, .bool false, .int .i64 0, .string (⟨#[]⟩ : ByteArray), .int .i64 0, .slice none 0 0, .slice none 0 0] 24 (0, 0)) (kB_ BK340.out)) : gb340 ≠ gb347))
        have n10_ := a0_ ((by rw [hg]; exact Nat.ne_of_gt (blk_lt (g := gb340) (o := .cells #[.int .i64 0, .bool false, .bool false, .int .i64 0, .string (⟨#[]⟩ : ByteArray), .int .i64 0, .slice none 0 0, .slice none 0 0] 24 (0, 0)) (kB_ BK340.out)) : gb347 ≠ gb340))
        clear HO343
        clear BK339
        clear BK340
        clear HB
        have HO343 := n0_
        have BK339 := n1_
        have BK340 := n2_
        have HB := n3_
        have BK347 := n4_
        have GW347 := n5_
        have GE347 := n6_
        have NB339_347 := n7_
        have NB347_339 := n8_
        have NB340_347 := n9_
        have NB347_340 := n10_
        clear n0_ n1_ n2_ n3_ n4_ n5_ n6_ n7_ n8_ n9_ n10_
        clear hb hbox hg
        refine hK.out _ _ ⟨(blk_cell BK339.out 0).trans rfl, (blk_cell BK339.out 1).trans rfl, (blk_cell BK339.out 2).trans rfl, (blk_cell BK339.out 3).trans rfl, (blk_cell BK339.out 4).trans rfl, (blk_cell BK339.out 5).trans rfl, (blk_cell BK339.out 6).trans rfl, (blk_cell BK339.out 7).trans rfl⟩ (fun hHeld => ?_)
        clear hK K
        refine norm_ (a' := ?_) ?_ ?_
        rotate_left
        · show Act.put _ (some 10) _ = _
          simp only [Act.put, List.setIfInBounds_toArray, List.set_cons_zero, List.set_cons_succ, i64_w, i32_w]
          rfl
        refine one_ (i := 10) (N := some 21) #[true, true, true, true, true, true, true, true, true, true, true, false, true, false] rfl rfl (one_of HT_.out (by kernel_rfl)) (by decide) (fun K hK => ?_)
        refine goes_ Tryz.func52 (by kernel_rfl) rfl #[.slice A3 l3.length c3] (by rfl) rfl rfl argsS_ ?_
        with_reducible refine (slices_Clone_rec.calls _ _ l3 t344 _ ?side1 ?side2 A6.out).mono ?_
        (case side1 => exact kC_ HR3.out HB.out)
        (case side2 => exact HC3.out)
        rintro e w43 ⟨v345, rfl, ho0, hb⟩
        refine ⟨_, rfl, ?_⟩
        have n0_ := a0_ (Kd.R_elder' (kR_ HO343.out) (Kd.R_base ho0) hb)
        have n1_ := a0_ (Kd.R_lower (Kd.R_new' ho0 (Kd.R_lt (kR_ HO343.out))) (below_size bq1_))
        have n2_ := a0_ (bkB_ BK339 hb)
        have n3_ := a0_ (bkB_ BK340 hb)
        have n4_ := a0_ (bkB_ BK347 hb)
        have n5_ := a0_ (below_step bq1_ hb)
        clear HO343
        clear BK339
        clear BK340
        clear BK347
        clear HB
        have HO343 := n0_
        have HO346 := n1_
        have BK339 := n2_
        have BK340 := n3_
        have BK347 := n4_
        have HB := n5_
        clear n0_ n1_ n2_ n3_ n4_ n5_
        (try clear hb)
        (try clear hb2)
        (try clear hk)
        (try clear hi)
        (try clear ho0)
        obtain ⟨Ao44, co44, eo44⟩ := Kd.R_slice HO346.out
        (first | subst eo44 | (injection eo44 with f1_ f2_ f3_; have f4_ := f1_.symm; have f5_ := f3_.symm; clear f1_ f2_ f3_; subst f4_; subst f5_))
        obtain ⟨Ao45, co45, eo45⟩ := Kd.R_slice HO343.out
        (first | subst eo45 | (injection eo45 with f1_ f2_ f3_; have f4_ := f1_.symm; have f5_ := f3_.symm; clear f1_ f2_ f3_; subst f4_; subst f5_))
        refine hK.out _ _ ⟨(blk_cell BK339.out 0).trans rfl, (blk_cell BK339.out 1).trans rfl, (blk_cell BK339.out 2).trans rfl, (blk_cell BK339.out 3).trans rfl, (blk_cell BK339.out 4).trans rfl, (blk_cell BK339.out 5).trans rfl, (blk_cell BK339.out 6).trans rfl, (blk_cell BK339.out 7).trans rfl⟩ (fun hHeld => ?_)
        clear hK K
        refine norm_ (a' := ?_) ?_ ?_
        rotate_left
        · show Act.put _ (some 21) _ = _
          simp only [Act.put, List.setIfInBounds_toArray, List.set_cons_zero, List.set_cons_succ, i64_w, i32_w]
          rfl
        refine pure_ (i := 11) (N := some 22) (v := ?_) (a' := ?_) #[true, true, true, true, true, true, true, true, true, true, true, true, true, false] rfl rfl (any_of HT_.out (by kernel_rfl)) (fun _ _ _ h => h) (Or.inl ⟨by rfl, ?_⟩) ?_ ?_
        rotate_left
        · intro w'
          go_simp
          with_reducible rfl
        rotate_left
        · simp only [Act.put, List.setIfInBounds_toArray, List.set_cons_zero, List.set_cons_succ, i64_w, i32_w]
          rfl
        exact norm_ (by simp only [putAll, Act.put, List.setIfInBounds_toArray, List.set_cons_zero, List.set_cons_succ]) (hCont (.slice Ao45 t341.length co45, .slice Ao44 t344.length co44, gb347) _ ⟨hHeld, (kR_ (Kd.R_mono HO343.out (fun _ hk => hk.2))), (kR_ (Kd.R_mono HO346.out (fun _ hk => hk.2))), (kB_ BK339.out), (kB_ BK340.out), (kB_ BK347.out), GW347.out, GE347.out, NB339_347.out, NB347_339.out, NB340_347.out, NB347_340.out, bq1_⟩)
    · skip
      refine box_step ?hg (N := 10) ?hd (cs := #[.int .i64 0, .bool false, .bool false, .int .i64 0, .string (⟨#[]⟩ : ByteArray), .int .i64 0, .slice none 0 0, .slice none 0 0]) (t := 24) ?hr ?_; (case hd => rfl); (case hg => rfl); (case hr => first | (go_simp; done) | (go_simp; rfl))
      intro gb347 hg w41 hbox hb
      have n0_ := a0_ (bkB_ BK339 hb)
      have n1_ := a0_ (bkB_ BK340 hb)
      have n2_ := a0_ (below_step bq1_ hb)
      have n3_ := a0_ (hbox)
      have n4_ := a0_ ((by rw [hg]; exact (below_size bq1_) : w.heap.size ≤ gb347))
      have n5_ := a0_ ((by rw [hg]; exact (below_size bq1_) : w.heap.size ≤ gb347))
      have n6_ := a0_ ((by rw [hg]; exact Nat.ne_of_lt (blk_lt (g := gb339) (o := .cells #[.int .i64 a0_0, .bool false, .bool a0_2, .int .i64 a0_3, .string a0_4, .int .i64 a0_5, .slice A0_6 l0_6.length c0_6, .slice A0_7 l0_7.length c0_7] 24 (0, 0)) (kB_ BK339.out)) : gb339 ≠ gb347))
      have n7_ := a0_ ((by rw [hg]; exact Nat.ne_of_gt (blk_lt (g := gb339) (o := .cells #[.int .i64 a0_0, .bool false, .bool a0_2, .int .i64 a0_3, .string a0_4, .int .i64 a0_5, .slice A0_6 l0_6.length c0_6, .slice A0_7 l0_7.length c0_7] 24 (0, 0)) (kB_ BK339.out)) : gb347 ≠ gb339))
      have n8_ := a0_ ((by rw [hg]; exact Nat.ne_of_lt (blk_lt (g := gb340) (o := .cells #[.int .i64 0, .bool false, .bool false, .int .i64 0, .string (⟨#[]⟩ : ByteArray), .int .i64 0, .slice none 0 0, .slice none 0 0] 24 (0, 0)) (kB_ BK340.out)) : gb340 ≠ gb347))
      have n9_ := a0_ ((by rw [hg]; exact Nat.ne_of_gt (blk_lt (g := gb340) (o := .cells #[.int .i64 0, .bool false, .bool false, .int .i64 0, .string (⟨#[]⟩ : ByteArray), .int .i64 0, .slice none 0 0, .slice none 0 0] 24 (0, 0)) (kB_ BK340.out)) : gb347 ≠ gb340))
      clear BK339
      clear BK340
      clear HB
      have BK339 := n0_
      have BK340 := n1_
      have HB := n2_
      have BK347 := n3_
      have GW347 := n4_
      have GE347 := n5_
      have NB339_347 := n6_
      have NB347_339 := n7_
      have NB340_347 := n8_
      have NB347_340 := n9_
      clear n0_ n1_ n2_ n3_ n4_ n5_ n6_ n7_ n8_ n9_
      clear hb hbox hg
      refine hK.out _ _ ⟨(blk_cell BK339.out 0).trans rfl, (blk_cell BK339.out 1).trans rfl, (blk_cell BK339.out 2).trans rfl, (blk_cell BK339.out 3).trans rfl, (blk_cell BK339.out 4).trans rfl, (blk_cell BK339.out 5).trans rfl, (blk_cell BK339.out 6).trans rfl, (blk_cell BK339.out 7).trans rfl⟩ (fun hHeld => ?_)
      clear hK K
      refine norm_ (a' := ?_) ?_ ?_
      rotate_left
      · show Act.put _ (some 10) _ = _
        simp only [Act.put, List.setIfInBounds_toArray, List.set_cons_zero, List.set_cons_succ, i64_w, i32_w]
        rfl
      refine one_ (i := 8) (N := some 19) #[true, true, true, true, true, true, true, true, true, true, false, false, true, false] rfl rfl (one_of HT_.out (by kernel_rfl)) (by decide) (fun K hK => ?_)
      refine goes_ Tryz.func52 (by kernel_rfl) rfl #[.slice A2 l2.length c2] (by rfl) rfl rfl argsS_ ?_
      with_reducible refine (slices_Clone_rec.calls _ _ l2 t341 _ ?side1 ?side2 A5.out).mono ?_
      (case side1 => exact kC_ HR2.out HB.out)
      (case side2 => exact HC2.out)
      rintro e w42 ⟨v342, rfl, ho0, hb⟩
      refine ⟨_, rfl, ?_⟩
      have HO343 := a0_ (Kd.R_lower ho0 (below_size bq1_))
      replace BK339 := a0_ (bkB_ BK339 hb)
      replace BK340 := a0_ (bkB_ BK340 hb)
      replace BK347 := a0_ (bkB_ BK347 hb)
      replace HB := a0_ (below_step bq1_ hb)
      (try clear hb)
      (try clear hb2)
      (try clear hk)
      (try clear hi)
      (try clear ho0)
      refine hK.out _ _ ⟨(blk_cell BK339.out 0).trans rfl, (blk_cell BK339.out 1).trans rfl, (blk_cell BK339.out 2).trans rfl, (blk_cell BK339.out 3).trans rfl, (blk_cell BK339.out 4).trans rfl, (blk_cell BK339.out 5).trans rfl, (blk_cell BK339.out 6).trans rfl, (blk_cell BK339.out 7).trans rfl⟩ (fun hHeld => ?_)
      clear hK K
      refine norm_ (a' := ?_) ?_ ?_
      rotate_left
      · show Act.put _ (some 19) _ = _
        simp only [Act.put, List.setIfInBounds_toArray, List.set_cons_zero, List.set_cons_succ, i64_w, i32_w]
        rfl
      refine one_ (i := 10) (N := some 21) #[true, true, true, true, true, true, true, true, true, true, true, false, true, false] rfl rfl (one_of HT_.out (by kernel_rfl)) (by decide) (fun K hK => ?_)
      refine goes_ Tryz.func52 (by kernel_rfl) rfl #[.slice A3 l3.length c3] (by rfl) rfl rfl argsS_ ?_
      with_reducible refine (slices_Clone_rec.calls _ _ l3 t344 _ ?side1 ?side2 A6.out).mono ?_
      (case side1 => exact kC_ HR3.out HB.out)
      (case side2 => exact HC3.out)
      rintro e w43 ⟨v345, rfl, ho0, hb⟩
      refine ⟨_, rfl, ?_⟩
      have n0_ := a0_ (Kd.R_elder' (kR_ HO343.out) (Kd.R_base ho0) hb)
      have n1_ := a0_ (Kd.R_lower (Kd.R_new' ho0 (Kd.R_lt (kR_ HO343.out))) (below_size bq1_))
      have n2_ := a0_ (bkB_ BK339 hb)
      have n3_ := a0_ (bkB_ BK340 hb)
      have n4_ := a0_ (bkB_ BK347 hb)
      have n5_ := a0_ (below_step bq1_ hb)
      clear HO343
      clear BK339
      clear BK340
      clear BK347
      clear HB
      have HO343 := n0_
      have HO346 := n1_
      have BK339 := n2_
      have BK340 := n3_
      have BK347 := n4_
      have HB := n5_
      clear n0_ n1_ n2_ n3_ n4_ n5_
      (try clear hb)
      (try clear hb2)
      (try clear hk)
      (try clear hi)
      (try clear ho0)
      obtain ⟨Ao44, co44, eo44⟩ := Kd.R_slice HO346.out
      (first | subst eo44 | (injection eo44 with f1_ f2_ f3_; have f4_ := f1_.symm; have f5_ := f3_.symm; clear f1_ f2_ f3_; subst f4_; subst f5_))
      obtain ⟨Ao45, co45, eo45⟩ := Kd.R_slice HO343.out
      (first | subst eo45 | (injection eo45 with f1_ f2_ f3_; have f4_ := f1_.symm; have f5_ := f3_.symm; clear f1_ f2_ f3_; subst f4_; subst f5_))
      refine hK.out _ _ ⟨(blk_cell BK339.out 0).trans rfl, (blk_cell BK339.out 1).trans rfl, (blk_cell BK339.out 2).trans rfl, (blk_cell BK339.out 3).trans rfl, (blk_cell BK339.out 4).trans rfl, (blk_cell BK339.out 5).trans rfl, (blk_cell BK339.out 6).trans rfl, (blk_cell BK339.out 7).trans rfl⟩ (fun hHeld => ?_)
      clear hK K
      refine norm_ (a' := ?_) ?_ ?_
      rotate_left
      · show Act.put _ (some 21) _ = _
        simp only [Act.put, List.setIfInBounds_toArray, List.set_cons_zero, List.set_cons_succ, i64_w, i32_w]
        rfl
      refine pure_ (i := 11) (N := some 22) (v := ?_) (a' := ?_) #[true, true, true, true, true, true, true, true, true, true, true, true, true, false] rfl rfl (any_of HT_.out (by kernel_rfl)) (fun _ _ _ h => h) (Or.inl ⟨by rfl, ?_⟩) ?_ ?_
      rotate_left
      · intro w'
        go_simp
        with_reducible rfl
      rotate_left
      · simp only [Act.put, List.setIfInBounds_toArray, List.set_cons_zero, List.set_cons_succ, i64_w, i32_w]
        rfl
      exact norm_ (by simp only [putAll, Act.put, List.setIfInBounds_toArray, List.set_cons_zero, List.set_cons_succ]) (hCont (.slice Ao45 t341.length co45, .slice Ao44 t344.length co44, gb347) _ ⟨hHeld, (kR_ (Kd.R_mono HO343.out (fun _ hk => hk.2))), (kR_ (Kd.R_mono HO346.out (fun _ hk => hk.2))), (kB_ BK339.out), (kB_ BK340.out), (kB_ BK347.out), GW347.out, GE347.out, NB339_347.out, NB347_339.out, NB340_347.out, NB347_340.out, bq1_⟩)
  rintro ⟨v342, v345, gb347⟩ w46 ⟨hS_, h0_, h1_, h2_, h3_, h4_, h5_, h6_, h7_, h8_, h9_, h10_, h11_⟩
  have n0_ : Aside0 (Kd.R k72 72 w46 w.heap.size (fun k_ => some k_ ≠ (v345 : Value).ownBlock) v342 t341) := ⟨h0_⟩
  have n1_ : Aside0 (Kd.R k72 72 w46 w.heap.size (fun k_ => some k_ ≠ (v342 : Value).ownBlock) v345 t344) := ⟨h1_⟩
  have n2_ : Aside0 (w46.heap[gb339]? = some (.cells #[.int .i64 a0_0, .bool false, .bool a0_2, .int .i64 a0_3, .string a0_4, .int .i64 a0_5, .slice A0_6 l0_6.length c0_6, .slice A0_7 l0_7.length c0_7] 24 (0, 0))) := ⟨h2_⟩
  have n3_ : Aside0 (w46.heap[gb340]? = some (.cells #[.int .i64 0, .bool false, .bool false, .int .i64 0, .string (⟨#[]⟩ : ByteArray), .int .i64 0, .slice none 0 0, .slice none 0 0] 24 (0, 0))) := ⟨h3_⟩
  have n4_ : Aside0 (w46.heap[gb347]? = some (.cells #[.int .i64 0, .bool false, .bool false, .int .i64 0, .string (⟨#[]⟩ : ByteArray), .int .i64 0, .slice none 0 0, .slice none 0 0] 24 (0, 0))) := ⟨h4_⟩
  have n5_ : Aside0 (w.heap.size ≤ gb347) := ⟨h5_⟩
  have n6_ : Aside0 (w.heap.size ≤ gb347) := ⟨h6_⟩
  have n7_ : Aside0 (gb339 ≠ gb347) := ⟨h7_⟩
  have n8_ : Aside0 (gb347 ≠ gb339) := ⟨h8_⟩
  have n9_ : Aside0 (gb340 ≠ gb347) := ⟨h9_⟩
  have n10_ : Aside0 (gb347 ≠ gb340) := ⟨h10_⟩
  have n11_ : Aside0 (Below w.heap.size w w46) := ⟨h11_⟩
  clear BK339
  clear BK340
  clear HB
  clear h0_ h1_ h2_ h3_ h4_ h5_ h6_ h7_ h8_ h9_ h10_ h11_
  have HO343 := n0_
  have HO346 := n1_
  have BK339 := n2_
  have BK340 := n3_
  have BK347 := n4_
  have GW347 := n5_
  have GE347 := n6_
  have NB339_347 := n7_
  have NB347_339 := n8_
  have NB340_347 := n9_
  have NB347_340 := n10_
  have HB := n11_
  clear n0_ n1_ n2_ n3_ n4_ n5_ n6_ n7_ n8_ n9_ n10_ n11_
  have hHeld : w46.cell? ⟨gb339, 0, none⟩ = some (.int .i64 a0_0) ∧ w46.cell? ⟨gb339, 1, none⟩ = some (.bool false) ∧ w46.cell? ⟨gb339, 2, none⟩ = some (.bool a0_2) ∧ w46.cell? ⟨gb339, 3, none⟩ = some (.int .i64 a0_3) ∧ w46.cell? ⟨gb339, 4, none⟩ = some (.string a0_4) ∧ w46.cell? ⟨gb339, 5, none⟩ = some (.int .i64 a0_5) ∧ w46.cell? ⟨gb339, 6, none⟩ = some (.slice A0_6 l0_6.length c0_6) ∧ w46.cell? ⟨gb339, 7, none⟩ = some (.slice A0_7 l0_7.length c0_7) := hS_
  obtain ⟨Ao47, co47, eo47⟩ := Kd.R_slice HO346.out
  (first | subst eo47 | (injection eo47 with f1_ f2_ f3_; have f4_ := f1_.symm; have f5_ := f3_.symm; clear f1_ f2_ f3_; subst f4_; subst f5_))
  obtain ⟨Ao48, co48, eo48⟩ := Kd.R_slice HO343.out
  (first | subst eo48 | (injection eo48 with f1_ f2_ f3_; have f4_ := f1_.symm; have f5_ := f3_.symm; clear f1_ f2_ f3_; subst f4_; subst f5_))
  refine norm_ (a' := ?_) ?_ ?_
  rotate_left
  · simp only [putAll, Act.put, List.setIfInBounds_toArray, List.set_cons_zero, List.set_cons_succ]
    rfl
  refine one_ (i := 13) (N := none) #[true, true, true, true, true, true, true, true, true, true, true, true, true, true] rfl rfl (one_of HT_.out (by kernel_rfl)) (by decide) (fun K hK => ?_)
  have hs49 : w46.cell? ⟨gb347, 0, none⟩ = some (.int .i64 0) := (blk_cell BK347.out 0).trans rfl
  have hfs49 := blk_frozen BK347.out 0
  have hns49_0 := NB339_347.out
  have hns49_1 := NB340_347.out
  have hms49_0 := NB347_339.out
  have hms49_1 := NB347_340.out
  have hs50 : w46.cell? ⟨gb347, 1, none⟩ = some (.bool false) := (blk_cell BK347.out 1).trans rfl
  have hfs50 := blk_frozen BK347.out 1
  have hns50_0 := NB339_347.out
  have hns50_1 := NB340_347.out
  have hms50_0 := NB347_339.out
  have hms50_1 := NB347_340.out
  have hs51 : w46.cell? ⟨gb347, 2, none⟩ = some (.bool false) := (blk_cell BK347.out 2).trans rfl
  have hfs51 := blk_frozen BK347.out 2
  have hns51_0 := NB339_347.out
  have hns51_1 := NB340_347.out
  have hms51_0 := NB347_339.out
  have hms51_1 := NB347_340.out
  have hs52 : w46.cell? ⟨gb347, 3, none⟩ = some (.int .i64 0) := (blk_cell BK347.out 3).trans rfl
  have hfs52 := blk_frozen BK347.out 3
  have hns52_0 := NB339_347.out
  have hns52_1 := NB340_347.out
  have hms52_0 := NB347_339.out
  have hms52_1 := NB347_340.out
  have hs53 : w46.cell? ⟨gb347, 4, none⟩ = some (.string (⟨#[]⟩ : ByteArray)) := (blk_cell BK347.out 4).trans rfl
  have hfs53 := blk_frozen BK347.out 4
  have hns53_0 := NB339_347.out
  have hns53_1 := NB340_347.out
  have hms53_0 := NB347_339.out
  have hms53_1 := NB347_340.out
  have hs54 : w46.cell? ⟨gb347, 5, none⟩ = some (.int .i64 0) := (blk_cell BK347.out 5).trans rfl
  have hfs54 := blk_frozen BK347.out 5
  have hns54_0 := NB339_347.out
  have hns54_1 := NB340_347.out
  have hms54_0 := NB347_339.out
  have hms54_1 := NB347_340.out
  have hs55 : w46.cell? ⟨gb347, 6, none⟩ = some (.slice none 0 0) := (blk_cell BK347.out 6).trans rfl
  have hfs55 := blk_frozen BK347.out 6
  have hns55_0 := NB339_347.out
  have hns55_1 := NB340_347.out
  have hms55_0 := NB347_339.out
  have hms55_1 := NB347_340.out
  have hs56 : w46.cell? ⟨gb347, 7, none⟩ = some (.slice none 0 0) := (blk_cell BK347.out 7).trans rfl
  have hfs56 := blk_frozen BK347.out 7
  have hns56_0 := NB339_347.out
  have hns56_1 := NB340_347.out
  have hms56_0 := NB347_339.out
  have hms56_1 := NB347_340.out
  refine skip_ (w1 := ?_) (by rfl) rfl ?_ ?_
  rotate_left
  · go_simp
    rfl
  refine hK.out _ _ ⟨((cell_far (p := ⟨gb347, _, none⟩) NB339_347.out _).trans (((cell_far (p := ⟨gb347, _, none⟩) NB339_347.out _).trans (((cell_far (p := ⟨gb347, _, none⟩) NB339_347.out _).trans (((cell_far (p := ⟨gb347, _, none⟩) NB339_347.out _).trans (((cell_far (p := ⟨gb347, _, none⟩) NB339_347.out _).trans (((cell_far (p := ⟨gb347, _, none⟩) NB339_347.out _).trans (((cell_far (p := ⟨gb347, _, none⟩) NB339_347.out _).trans (((cell_far (p := ⟨gb347, _, none⟩) NB339_347.out _).trans (hHeld.1)))))))))))))))), ((cell_far (p := ⟨gb347, _, none⟩) NB339_347.out _).trans (((cell_far (p := ⟨gb347, _, none⟩) NB339_347.out _).trans (((cell_far (p := ⟨gb347, _, none⟩) NB339_347.out _).trans (((cell_far (p := ⟨gb347, _, none⟩) NB339_347.out _).trans (((cell_far (p := ⟨gb347, _, none⟩) NB339_347.out _).trans (((cell_far (p := ⟨gb347, _, none⟩) NB339_347.out _).trans (((cell_far (p := ⟨gb347, _, none⟩) NB339_347.out _).trans (((cell_far (p := ⟨gb347, _, none⟩) NB339_347.out _).trans (hHeld.2.1)))))))))))))))), ((cell_far (p := ⟨gb347, _, none⟩) NB339_347.out _).trans (((cell_far (p := ⟨gb347, _, none⟩) NB339_347.out _).trans (((cell_far (p := ⟨gb347, _, none⟩) NB339_347.out _).trans (((cell_far (p := ⟨gb347, _, none⟩) NB339_347.out _).trans (((cell_far (p := ⟨gb347, _, none⟩) NB339_347.out _).trans (((cell_far (p := ⟨gb347, _, none⟩) NB339_347.out _).trans (((cell_far (p := ⟨gb347, _, none⟩) NB339_347.out _).trans (((cell_far (p := ⟨gb347, _, none⟩) NB339_347.out _).trans (hHeld.2.2.1)))))))))))))))), ((cell_far (p := ⟨gb347, _, none⟩) NB339_347.out _).trans (((cell_far (p := ⟨gb347, _, none⟩) NB339_347.out _).trans (((cell_far (p := ⟨gb347, _, none⟩) NB339_347.out _).trans (((cell_far (p := ⟨gb347, _, none⟩) NB339_347.out _).trans (((cell_far (p := ⟨gb347, _, none⟩) NB339_347.out _).trans (((cell_far (p := ⟨gb347, _, none⟩) NB339_347.out _).trans (((cell_far (p := ⟨gb347, _, none⟩) NB339_347.out _).trans (((cell_far (p := ⟨gb347, _, none⟩) NB339_347.out _).trans (hHeld.2.2.2.1)))))))))))))))), ((cell_far (p := ⟨gb347, _, none⟩) NB339_347.out _).trans (((cell_far (p := ⟨gb347, _, none⟩) NB339_347.out _).trans (((cell_far (p := ⟨gb347, _, none⟩) NB339_347.out _).trans (((cell_far (p := ⟨gb347, _, none⟩) NB339_347.out _).trans (((cell_far (p := ⟨gb347, _, none⟩) NB339_347.out _).trans (((cell_far (p := ⟨gb347, _, none⟩) NB339_347.out _).trans (((cell_far (p := ⟨gb347, _, none⟩) NB339_347.out _).trans (((cell_far (p := ⟨gb347, _, none⟩) NB339_347.out _).trans (hHeld.2.2.2.2.1)))))))))))))))), ((cell_far (p := ⟨gb347, _, none⟩) NB339_347.out _).trans (((cell_far (p := ⟨gb347, _, none⟩) NB339_347.out _).trans (((cell_far (p := ⟨gb347, _, none⟩) NB339_347.out _).trans (((cell_far (p := ⟨gb347, _, none⟩) NB339_347.out _).trans (((cell_far (p := ⟨gb347, _, none⟩) NB339_347.out _).trans (((cell_far (p := ⟨gb347, _, none⟩) NB339_347.out _).trans (((cell_far (p := ⟨gb347, _, none⟩) NB339_347.out _).trans (((cell_far (p := ⟨gb347, _, none⟩) NB339_347.out _).trans (hHeld.2.2.2.2.2.1)))))))))))))))), ((cell_far (p := ⟨gb347, _, none⟩) NB339_347.out _).trans (((cell_far (p := ⟨gb347, _, none⟩) NB339_347.out _).trans (((cell_far (p := ⟨gb347, _, none⟩) NB339_347.out _).trans (((cell_far (p := ⟨gb347, _, none⟩) NB339_347.out _).trans (((cell_far (p := ⟨gb347, _, none⟩) NB339_347.out _).trans (((cell_far (p := ⟨gb347, _, none⟩) NB339_347.out _).trans (((cell_far (p := ⟨gb347, _, none⟩) NB339_347.out _).trans (((cell_far (p := ⟨gb347, _, none⟩) NB339_347.out _).trans (hHeld.2.2.2.2.2.2.1)))))))))))))))), ((cell_far (p := ⟨gb347, _, none⟩) NB339_347.out _).trans (((cell_far (p := ⟨gb347, _, none⟩) NB339_347.out _).trans (((cell_far (p := ⟨gb347, _, none⟩) NB339_347.out _).trans (((cell_far (p := ⟨gb347, _, none⟩) NB339_347.out _).trans (((cell_far (p := ⟨gb347, _, none⟩) NB339_347.out _).trans (((cell_far (p := ⟨gb347, _, none⟩) NB339_347.out _).trans (((cell_far (p := ⟨gb347, _, none⟩) NB339_347.out _).trans (((cell_far (p := ⟨gb347, _, none⟩) NB339_347.out _).trans (hHeld.2.2.2.2.2.2.2))))))))))))))))⟩ (fun hHeld => ?_)
  clear hK K
  refine done_ (done_of HT_.out (by kernel_rfl)) ?_
  have hnb57 := NB339_340.out
  have hnc57 := NB340_339.out
  have hnb58 := NB339_347.out
  have hnc58 := NB347_339.out
  have z59_0 : w46.cell? ⟨gb339, 0, none⟩ = some (.int .i64 a0_0) := (blk_cell BK339.out 0).trans rfl
  have z59_1 : w46.cell? ⟨gb339, 1, none⟩ = some (.bool false) := (blk_cell BK339.out 1).trans rfl
  have z59_2 : w46.cell? ⟨gb339, 2, none⟩ = some (.bool a0_2) := (blk_cell BK339.out 2).trans rfl
  have z59_3 : w46.cell? ⟨gb339, 3, none⟩ = some (.int .i64 a0_3) := (blk_cell BK339.out 3).trans rfl
  have z59_4 : w46.cell? ⟨gb339, 4, none⟩ = some (.string a0_4) := (blk_cell BK339.out 4).trans rfl
  have z59_5 : w46.cell? ⟨gb339, 5, none⟩ = some (.int .i64 a0_5) := (blk_cell BK339.out 5).trans rfl
  have z59_6 : w46.cell? ⟨gb339, 6, none⟩ = some (.slice A0_6 l0_6.length c0_6) := (blk_cell BK339.out 6).trans rfl
  have z59_7 : w46.cell? ⟨gb339, 7, none⟩ = some (.slice A0_7 l0_7.length c0_7) := (blk_cell BK339.out 7).trans rfl
  have q59_0 := blk_frozen BK339.out 0
  have q59_1 := blk_frozen BK339.out 1
  have q59_2 := blk_frozen BK339.out 2
  have q59_3 := blk_frozen BK339.out 3
  have q59_4 := blk_frozen BK339.out 4
  have q59_5 := blk_frozen BK339.out 5
  have q59_6 := blk_frozen BK339.out 6
  have q59_7 := blk_frozen BK339.out 7
  try go_wp2_with (first | ((with_reducible refine gate_callee (f := 49) rfl ?_); refine goesL_ (some 24) rfl rfl Tryz.func49 (by kernel_rfl) rfl #[.agg #[.int .i64 a0_0, .bool false, .bool a0_2, .int .i64 a0_3, .string a0_4, .int .i64 a0_5, .slice A0_6 l0_6.length c0_6, .slice A0_7 l0_7.length c0_7]] rfl argsS_ ?_; (with_reducible refine (impl_GoodMessage.calls k a0_0 false a0_2 a0_3 a0_4 a0_5 _ _ l0_6 _ _ l0_7 true _ ?side1 ?side2 ?side3 ?side4 A7.out).mono ?_); (case side1 => exact Kd.C_below HR0_6.out bq1_); (case side2 => exact HC0_6.out); (case side3 => exact Kd.C_below HR0_7.out bq1_); (case side4 => exact HC0_7.out); rintro e w60 ⟨rfl, hb⟩; refine ⟨_, rfl, ?_⟩; replace HO343 := a0_ (Kd.R_below (kR_ (farR8_ HO343.out BK347.out)) hb); replace HO346 := a0_ (Kd.R_below (kR_ (farR8_ HO346.out BK347.out)) hb); replace BK339 := a0_ (blk_below (g := gb339) (o := .cells #[.int .i64 a0_0, .bool false, .bool a0_2, .int .i64 a0_3, .string a0_4, .int .i64 a0_5, .slice A0_6 l0_6.length c0_6, .slice A0_7 l0_7.length c0_7] 24 (0, 0)) (bfar8_ NB339_347.out BK339.out) hb); replace BK340 := a0_ (blk_below (g := gb340) (o := .cells #[.int .i64 0, .bool false, .bool false, .int .i64 0, .string (⟨#[]⟩ : ByteArray), .int .i64 0, .slice none 0 0, .slice none 0 0] 24 (0, 0)) (bfar8_ NB340_347.out BK340.out) hb); replace BK347 := a0_ (blk_below (g := gb347) (o := .cells #[.int .i64 a0_0, .bool true, .bool false, .int .i64 a1, .string a0_4, .int .i64 a0_5, .slice Ao48 t341.length co48, .slice Ao47 t344.length co47] 24 (0, 0)) (put8_ BK347.out) hb); replace HB := a0_ (below_step bq1_ hb); (try clear hb); (try clear hb2); (try clear hk); (try clear hi); obtain ⟨z61_0, z61_1, z61_2, z61_3, z61_4, z61_5, z61_6, z61_7, q61_0, q61_1, q61_2, q61_3, q61_4, q61_5, q61_6, q61_7⟩ := bk8_ BK339.out; have hnb62 := NB347_340.out; have hnc62 := NB340_347.out; obtain ⟨z63_0, z63_1, z63_2, z63_3, z63_4, z63_5, z63_6, z63_7, q63_0, q63_1, q63_2, q63_3, q63_4, q63_5, q63_6, q63_7⟩ := bk8_ BK347.out) | (go_at_call 49; (with_reducible refine (impl_GoodMessage.calls k a0_0 true false a1 a0_4 a0_5 _ _ t341 _ _ t344 true _ ?side1 ?side2 ?side3 ?side4 A36.out).mono ?_); (case side1 => exact kD_ (Kd.R_reads' HO343.out).2.2); (case side2 => exact (Kd.R_reads' HO343.out).2.1); (case side3 => exact kD_ (Kd.R_reads' HO346.out).2.2); (case side4 => exact (Kd.R_reads' HO346.out).2.1); rintro e w64 ⟨rfl, hb⟩; replace HO343 := a0_ (Kd.R_below (kR_ HO343.out) hb); replace HO346 := a0_ (Kd.R_below (kR_ HO346.out) hb); replace BK339 := a0_ (bkB_ BK339 hb); replace BK340 := a0_ (bkB_ BK340 hb); replace BK347 := a0_ (bkB_ BK347 hb); replace HB := a0_ (below_step bq1_ hb); (try clear hb); (try clear hb2); (try clear hk); (try clear hi); obtain ⟨z65_0, z65_1, z65_2, z65_3, z65_4, z65_5, z65_6, z65_7, q65_0, q65_1, q65_2, q65_3, q65_4, q65_5, q65_6, q65_7⟩ := bk8_ BK347.out; obtain ⟨z66_0, z66_1, z66_2, z66_3, z66_4, z66_5, z66_6, z66_7, q66_0, q66_1, q66_2, q66_3, q66_4, q66_5, q66_6, q66_7⟩ := bk8_ BK340.out))
  refine bodyPost_ret (results_ct rfl _ _ gb340 24 #[.int .i64 a0_0, .bool true, .bool false, .int .i64 a1, .string a0_4, .int .i64 a0_5, .slice Ao48 t341.length co48, .slice Ao47 t344.length co47] (0, 0) _ rfl (put8_ BK340.out) Tryz.underlying24 rfl (by kernel_rfl)) rfl ?_
  exact ⟨_, _, rr_, by (with_reducible repeat (first | apply Kd.R_alloc | apply Kd.R_drewN | apply Kd.R_drew)); exact Kd.R_mono (Kd.R_far (p := ⟨gb340, 7, none⟩) (Kd.R_far (p := ⟨gb340, 6, none⟩) (Kd.R_far (p := ⟨gb340, 5, none⟩) (Kd.R_far (p := ⟨gb340, 4, none⟩) (Kd.R_far (p := ⟨gb340, 3, none⟩) (Kd.R_far (p := ⟨gb340, 2, none⟩) (Kd.R_far (p := ⟨gb340, 1, none⟩) (Kd.R_far (p := ⟨gb340, 0, none⟩) (Kd.R_types HO343.out BK340.out (by decide)) (fun _ hk => hk.2) (.int .i64 a0_0)) (fun _ hk => hk.2) (.bool true)) (fun _ hk => hk.2) (.bool false)) (fun _ hk => hk.2) (.int .i64 a1)) (fun _ hk => hk.2) (.string a0_4)) (fun _ hk => hk.2) (.int .i64 a0_5)) (fun _ hk => hk.2) (.slice Ao48 t341.length co48)) (fun _ hk => hk.2) (.slice Ao47 t344.length co47)) (fun _ hk => hk.1), by (with_reducible repeat (first | apply Kd.R_alloc | apply Kd.R_drewN | apply Kd.R_drew)); exact Kd.R_mono (Kd.R_far (p := ⟨gb340, 7, none⟩) (Kd.R_far (p := ⟨gb340, 6, none⟩) (Kd.R_far (p := ⟨gb340, 5, none⟩) (Kd.R_far (p := ⟨gb340, 4, none⟩) (Kd.R_far (p := ⟨gb340, 3, none⟩) (Kd.R_far (p := ⟨gb340, 2, none⟩) (Kd.R_far (p := ⟨gb340, 1, none⟩) (Kd.R_far (p := ⟨gb340, 0, none⟩) (Kd.R_types HO346.out BK340.out (by decide)) (fun _ hk => hk.2) (.int .i64 a0_0)) (fun _ hk => hk.2) (.bool true)) (fun _ hk => hk.2) (.bool false)) (fun _ hk => hk.2) (.int .i64 a1)) (fun _ hk => hk.2) (.string a0_4)) (fun _ hk => hk.2) (.int .i64 a0_5)) (fun _ hk => hk.2) (.slice Ao48 t341.length co48)) (fun _ hk => hk.2) (.slice Ao47 t344.length co47)) (fun _ hk => hk.1), bq1_⟩
 replace c37 := Bool.eq_false_iff.mpr c37
 subst c37
 rw [if_neg (show ¬ (false = true) by decide)] at H
 simp only [Option.some.injEq, Prod.mk.injEq] at H
 obtain ⟨rfl, rfl, rfl, rfl, rfl, rfl, rfl, rfl, rfl⟩ := H
 go_enter Tryz.func22, Tryz.ntmps22
 try go_wp2_with (first | ((with_reducible refine gate_dst (N := 4) rfl ?_); refine boxS_ 4 #[.int .i64 a0_0, .bool false, .bool a0_2, .int .i64 a0_3, .string a0_4, .int .i64 a0_5, .slice A0_6 l0_6.length c0_6, .slice A0_7 l0_7.length c0_7] 24 (fun gb339 hg w67 hbox hb => ?_); have n0_ := a0_ (below_step bq0_ hb); have n1_ := a0_ (hbox); have n2_ := a0_ (gw_ hg : w.heap.size ≤ gb339); have n3_ := n2_; clear HB; have HB := n0_; have BK339 := n1_; have GW339 := n2_; have GE339 := n3_; clear n0_ n1_ n2_ n3_; clear hb hbox hg) | ((with_reducible refine gate_dst (N := 8) rfl ?_); refine boxS_ 8 #[.int .i64 0, .bool false, .bool false, .int .i64 0, .string (⟨#[]⟩ : ByteArray), .int .i64 0, .slice none 0 0, .slice none 0 0] 24 (fun gb340 hg w68 hbox hb => ?_); have n0_ := a0_ (bkB_ BK339 hb); have n1_ := a0_ (below_step bq1_ hb); have n2_ := a0_ (hbox); have n3_ := a0_ (gw_ hg (below_size bq1_) : w.heap.size ≤ gb340); have n4_ := n3_; have n5_ := a0_ ((by rw [hg]; exact Nat.ne_of_lt (blk_lt (g := gb339) (o := .cells #[.int .i64 a0_0, .bool false, .bool a0_2, .int .i64 a0_3, .string a0_4, .int .i64 a0_5, .slice A0_6 l0_6.length c0_6, .slice A0_7 l0_7.length c0_7] 24 (0, 0)) (kB_ BK339.out)) : gb339 ≠ gb340)); have n6_ := a0_ ((by rw [hg]; exact Nat.ne_of_gt (blk_lt (g := gb339) (o := .cells #[.int .i64 a0_0, .bool false, .bool a0_2, .int .i64 a0_3, .string a0_4, .int .i64 a0_5, .slice A0_6 l0_6.length c0_6, .slice A0_7 l0_7.length c0_7] 24 (0, 0)) (kB_ BK339.out)) : gb340 ≠ gb339)); clear BK339; clear HB; have BK339 := n0_; have HB := n1_; have BK340 := n2_; have GW340 := n3_; have GE340 := n4_; have NB339_340 := n5_; have NB340_339 := n6_; clear n0_ n1_ n2_ n3_ n4_ n5_ n6_; clear hb hbox hg))
 replace BK339 := a0_ (blk_drew BK339.out)
 replace BK340 := a0_ (blk_drew BK340.out)
 replace HB := a0_ (below_drew1 HB.out)
 refine start_ (n := 14) (S := fun w' => w'.cell? ⟨gb339, 0, none⟩ = some (.int .i64 a0_0) ∧ w'.cell? ⟨gb339, 1, none⟩ = some (.bool false) ∧ w'.cell? ⟨gb339, 2, none⟩ = some (.bool a0_2) ∧ w'.cell? ⟨gb339, 3, none⟩ = some (.int .i64 a0_3) ∧ w'.cell? ⟨gb339, 4, none⟩ = some (.string a0_4) ∧ w'.cell? ⟨gb339, 5, none⟩ = some (.int .i64 a0_5) ∧ w'.cell? ⟨gb339, 6, none⟩ = some (.slice A0_6 l0_6.length c0_6) ∧ w'.cell? ⟨gb339, 7, none⟩ = some (.slice A0_7 l0_7.length c0_7)) (ds := []) #[false, false, false, false, false, false, false, false, false, false, false, false, false, false] (by kernel_rfl) rfl rfl ⟨(blk_cell BK339.out 0).trans rfl, (blk_cell BK339.out 1).trans rfl, (blk_cell BK339.out 2).trans rfl, (blk_cell BK339.out 3).trans rfl, (blk_cell BK339.out 4).trans rfl, (blk_cell BK339.out 5).trans rfl, (blk_cell BK339.out 6).trans rfl, (blk_cell BK339.out 7).trans rfl⟩ (fun hHeld => ?_); refine with_tabW impl_ReplyTo.tab1 impl_ReplyTo.bits1 (fun HT_ HW_ => ?_)
 generalize w68.drew = w69 at BK339 BK340 HB hHeld ⊢
 refine pure_ (i := 0) (N := some 11) (v := ?_) (a' := ?_) #[true, false, false, false, false, false, false, false, false, false, false, false, false, false] rfl rfl (any_of HT_.out (by kernel_rfl)) (fun _ _ _ h => h) (Or.inl ⟨by rfl, ?_⟩) ?_ ?_
 rotate_left
 · intro w'
   go_simp
   with_reducible rfl
 rotate_left
 · simp only [Act.put, List.setIfInBounds_toArray, List.set_cons_zero, List.set_cons_succ, i64_w, i32_w]
   rfl
 refine pure_ (i := 2) (N := some 13) (v := ?_) (a' := ?_) #[true, false, true, false, false, false, false, false, false, false, false, false, false, false] rfl rfl (any_of HT_.out (by kernel_rfl)) (fun _ _ _ h => h) (Or.inl ⟨by rfl, ?_⟩) ?_ ?_
 rotate_left
 · intro w'
   go_simp
   with_reducible rfl
 rotate_left
 · simp only [Act.put, List.setIfInBounds_toArray, List.set_cons_zero, List.set_cons_succ, i64_w, i32_w]
   rfl
 refine pure_ (i := 3) (N := some 14) (v := ?_) (a' := ?_) #[true, false, true, true, false, false, false, false, false, false, false, false, false, false] rfl rfl (any_of HT_.out (by kernel_rfl)) (fun _ _ _ h => h) (Or.inl ⟨by rfl, ?_⟩) ?_ ?_
 rotate_left
 · intro w'
   go_simp
   with_reducible rfl
 rotate_left
 · simp only [Act.put, List.setIfInBounds_toArray, List.set_cons_zero, List.set_cons_succ, i64_w, i32_w]
   rfl
 refine pure_ (i := 5) (N := some 16) (v := ?_) (a' := ?_) #[true, false, true, true, false, true, false, false, false, false, false, false, false, false] rfl rfl (any_of HT_.out (by kernel_rfl)) (fun _ _ _ h => h) (Or.inl ⟨by rfl, ?_⟩) ?_ ?_
 rotate_left
 · intro w'
   go_simp
   with_reducible rfl
 rotate_left
 · simp only [Act.put, List.setIfInBounds_toArray, List.set_cons_zero, List.set_cons_succ, i64_w, i32_w]
   rfl
 refine pure_ (i := 7) (N := some 18) (v := ?_) (a' := ?_) #[true, false, true, true, false, true, false, true, false, false, false, false, false, false] rfl rfl (any_of HT_.out (by kernel_rfl)) (fun _ _ _ h => h) (Or.inl ⟨by rfl, ?_⟩) ?_ ?_
 rotate_left
 · intro w'
   go_simp
   with_reducible rfl
 rotate_left
 · simp only [Act.put, List.setIfInBounds_toArray, List.set_cons_zero, List.set_cons_succ, i64_w, i32_w]
   rfl
 refine pure_ (i := 9) (N := some 20) (v := ?_) (a' := ?_) #[true, false, true, true, false, true, false, true, false, true, false, false, false, false] rfl rfl (any_of HT_.out (by kernel_rfl)) (fun _ _ _ h => h) (Or.inl ⟨by rfl, ?_⟩) ?_ ?_
 rotate_left
 · intro w'
   go_simp
   with_reducible rfl
 rotate_left
 · simp only [Act.put, List.setIfInBounds_toArray, List.set_cons_zero, List.set_cons_succ, i64_w, i32_w]
   rfl
 refine take_ (i := 1) (N := some 12) (v := ?_) (a' := ?_) #[true, true, true, true, false, true, false, true, false, true, false, false, false, false] rfl rfl (take_ofW HT_.out HW_.out (by kernel_rfl)) (fun _ _ _ h => h) (Or.inl ⟨by rfl, ?_⟩) hHeld ?_ ?_
 rotate_left
 · rintro w' ⟨s0, s1, s2, s3, s4, s5, s6, s7⟩
   go_simp
   with_reducible rfl
 rotate_left
 · simp only [Act.put, List.setIfInBounds_toArray, List.set_cons_zero, List.set_cons_succ, i64_w, i32_w]
   rfl
 refine take_ (i := 4) (N := some 15) (v := ?_) (a' := ?_) #[true, true, true, true, true, true, false, true, false, true, false, false, false, false] rfl rfl (take_ofW HT_.out HW_.out (by kernel_rfl)) (fun _ _ _ h => h) (Or.inl ⟨by rfl, ?_⟩) hHeld ?_ ?_
 rotate_left
 · rintro w' ⟨s0, s1, s2, s3, s4, s5, s6, s7⟩
   go_simp
   with_reducible rfl
 rotate_left
 · simp only [Act.put, List.setIfInBounds_toArray, List.set_cons_zero, List.set_cons_succ, i64_w, i32_w]
   rfl
 refine take_ (i := 6) (N := some 17) (v := ?_) (a' := ?_) #[true, true, true, true, true, true, true, true, false, true, false, false, false, false] rfl rfl (take_ofW HT_.out HW_.out (by kernel_rfl)) (fun _ _ _ h => h) (Or.inl ⟨by rfl, ?_⟩) hHeld ?_ ?_
 rotate_left
 · rintro w' ⟨s0, s1, s2, s3, s4, s5, s6, s7⟩
   go_simp
   with_reducible rfl
 rotate_left
 · simp only [Act.put, List.setIfInBounds_toArray, List.set_cons_zero, List.set_cons_succ, i64_w, i32_w]
   rfl
 refine join_ (σ := Value × Value × Nat) 1 #[true, true, true, true, true, true, true, true, true, true, true, true, true, false] (fun s_ => [(19, s_.1), (21, s_.2.1), (10, .pointer (some ⟨s_.2.2, 0, none⟩)), (22, .agg #[.int .i64 a0_0, .bool true, .bool false, .int .i64 a1, .string a0_4, .int .i64 a0_5, s_.1, s_.2.1])]) (fun s_ w' => (w'.cell? ⟨gb339, 0, none⟩ = some (.int .i64 a0_0) ∧ w'.cell? ⟨gb339, 1, none⟩ = some (.bool false) ∧ w'.cell? ⟨gb339, 2, none⟩ = some (.bool a0_2) ∧ w'.cell? ⟨gb339, 3, none⟩ = some (.int .i64 a0_3) ∧ w'.cell? ⟨gb339, 4, none⟩ = some (.string a0_4) ∧ w'.cell? ⟨gb339, 5, none⟩ = some (.int .i64 a0_5) ∧ w'.cell? ⟨gb339, 6, none⟩ = some (.slice A0_6 l0_6.length c0_6) ∧ w'.cell? ⟨gb339, 7, none⟩ = some (.slice A0_7 l0_7.length c0_7)) ∧ (Kd.R k72 72 w' w.heap.size (fun k_ => some k_ ≠ (s_.2.1 : Value).ownBlock) s_.1 t341) ∧ (Kd.R k72 72 w' w.heap.size (fun k_ => some k_ ≠ (s_.1 : Value).ownBlock) s_.2.1 t344) ∧ (w'.heap[gb339]? = some (.cells #[.int .i64 a0_0, .bool false, .bool a0_2, .int .i64 a0_3, .string a0_4, .int .i64 a0_5, .slice A0_6 l0_6.length c0_6, .slice A0_7 l0_7.length c0_7] 24 (0, 0))) ∧ (w'.heap[gb340]? = some (.cells #[.int .i64 0, .bool false, .bool false, .int .i64 0, .string (⟨#[]⟩ : ByteArray), .int .i64 0, .slice none 0 0, .slice none 0 0] 24 (0, 0))) ∧ (w'.heap[s_.2.2]? = some (.cells #[.int .i64 0, .bool false, .bool false, .int .i64 0, .string (⟨#[]⟩ : ByteArray), .int .i64 0, .slice none 0 0, .slice none 0 0] 24 (0, 0))) ∧ (w.heap.size ≤ s_.2.2) ∧ (w.heap.size ≤ s_.2.2) ∧ (gb339 ≠ s_.2.2) ∧ (s_.2.2 ≠ gb339) ∧ (gb340 ≠ s_.2.2) ∧ (s_.2.2 ≠ gb340) ∧ (Below w.heap.size w w')) ?_ ?_
 rotate_left
 · intro hCont
   refine two_ (i := 8) (j := 12) (Ni := some 19) (Nj := some 10) #[true, true, true, true, true, true, true, true, true, true, false, false, false, false] #[true, true, true, true, true, true, true, true, false, true, false, false, true, false] rfl rfl rfl rfl (two_of HT_.out (by kernel_rfl)) (by decide) (by decide) (fun K hK => ?_) (fun K hK => ?_)
   · skip
     refine goes_ Tryz.func52 (by kernel_rfl) rfl #[.slice A2 l2.length c2] (by rfl) rfl rfl argsS_ ?_
     with_reducible refine (slices_Clone_rec.calls _ _ l2 t341 _ ?side1 ?side2 A5.out).mono ?_
     (case side1 => exact kC_ HR2.out HB.out)
     (case side2 => exact HC2.out)
     rintro e w70 ⟨v342, rfl, ho0, hb⟩
     refine ⟨_, rfl, ?_⟩
     have HO343 := a0_ (Kd.R_lower ho0 (below_size bq1_))
     replace BK339 := a0_ (bkB_ BK339 hb)
     replace BK340 := a0_ (bkB_ BK340 hb)
     replace HB := a0_ (below_step bq1_ hb)
     (try clear hb)
     (try clear hb2)
     (try clear hk)
     (try clear hi)
     (try clear ho0)
     refine hK.out _ _ ⟨(blk_cell BK339.out 0).trans rfl, (blk_cell BK339.out 1).trans rfl, (blk_cell BK339.out 2).trans rfl, (blk_cell BK339.out 3).trans rfl, (blk_cell BK339.out 4).trans rfl, (blk_cell BK339.out 5).trans rfl, (blk_cell BK339.out 6).trans rfl, (blk_cell BK339.out 7).trans rfl⟩ (fun hHeld => ?_)
     clear hK K
     refine norm_ (a' := ?_) ?_ ?_
     rotate_left
     · show Act.put _ (some 19) _ = _
       simp only [Act.put, List.setIfInBounds_toArray, List.set_cons_zero, List.set_cons_succ, i64_w, i32_w]
       rfl
     refine two_ (i := 10) (j := 12) (Ni := some 21) (Nj := some 10) #[true, true, true, true, true, true, true, true, true, true, true, false, false, false] #[true, true, true, true, true, true, true, true, true, true, false, false, true, false] rfl rfl rfl rfl (two_of HT_.out (by kernel_rfl)) (by decide) (by decide) (fun K hK => ?_) (fun K hK => ?_)
     · skip
       refine goes_ Tryz.func52 (by kernel_rfl) rfl #[.slice A3 l3.length c3] (by rfl) rfl rfl argsS_ ?_
       with_reducible refine (slices_Clone_rec.calls _ _ l3 t344 _ ?side1 ?side2 A6.out).mono ?_
       (case side1 => exact kC_ HR3.out HB.out)
       (case side2 => exact HC3.out)
       rintro e w71 ⟨v345, rfl, ho0, hb⟩
       refine ⟨_, rfl, ?_⟩
       have n0_ := a0_ (Kd.R_elder' (kR_ HO343.out) (Kd.R_base ho0) hb)
       have n1_ := a0_ (Kd.R_lower (Kd.R_new' ho0 (Kd.R_lt (kR_ HO343.out))) (below_size bq1_))
       have n2_ := a0_ (bkB_ BK339 hb)
       have n3_ := a0_ (bkB_ BK340 hb)
       have n4_ := a0_ (below_step bq1_ hb)
       clear HO343
       clear BK339
       clear BK340
       clear HB
       have HO343 := n0_
       have HO346 := n1_
       have BK339 := n2_
       have BK340 := n3_
       have HB := n4_
       clear n0_ n1_ n2_ n3_ n4_
       (try clear hb)
       (try clear hb2)
       (try clear hk)
       (try clear hi)
       (try clear ho0)
       obtain ⟨Ao72, co72, eo72⟩ := Kd.R_slice HO346.out
       (first | subst eo72 | (injection eo72 with f1_ f2_ f3_; have f4_ := f1_.symm; have f5_ := f3_.symm; clear f1_ f2_ f3_; subst f4_; subst f5_))
       obtain ⟨Ao73, co73, eo73⟩ := Kd.R_slice HO343.out
       (first | subst eo73 | (injection eo73 with f1_ f2_ f3_; have f4_ := f1_.symm; have f5_ := f3_.symm; clear f1_ f2_ f3_; subst f4_; subst f5_))
       refine hK.out _ _ ⟨(blk_cell BK339.out 0).trans rfl, (blk_cell BK339.out 1).trans rfl, (blk_cell BK339.out 2).trans rfl, (blk_cell BK339.out 3).trans rfl, (blk_cell BK339.out 4).trans rfl, (blk_cell BK339.out 5).trans rfl, (blk_cell BK339.out 6).trans rfl, (blk_cell BK339.out 7).trans rfl⟩ (fun hHeld => ?_)
       clear hK K
       refine norm_ (a' := ?_) ?_ ?_
       rotate_left
       · show Act.put _ (some 21) _ = _
         simp only [Act.put, List.setIfInBounds_toArray, List.set_cons_zero, List.set_cons_succ, i64_w, i32_w]
         rfl
       refine pure_ (i := 11) (N := some 22) (v := ?_) (a' := ?_) #[true, true, true, true, true, true, true, true, true, true, true, true, false, false] rfl rfl (any_of HT_.out (by kernel_rfl)) (fun _ _ _ h => h) (Or.inl ⟨by rfl, ?_⟩) ?_ ?_
       rotate_left
       · intro w'
         go_simp
         with_reducible rfl
       rotate_left
       · simp only [Act.put, List.setIfInBounds_toArray, List.set_cons_zero, List.set_cons_succ, i64_w, i32_w]
         rfl
       refine one_ (i := 12) (N := some 10) #[true, true, true, true, true, true, true, true, true, true, true, true, true, false] rfl rfl (one_of HT_.out (by kernel_rfl)) (by decide) (fun K hK => ?_)
       refine box_step ?hg (N := 10) ?hd (cs := #[.int .i64 0, .bool false, .bool false, .int .i64 0, .string (⟨#[]⟩ : ByteArray), .int .i64 0, .slice none 0 0, .slice none 0 0]) (t := 24) ?hr ?_; (case hd => rfl); (case hg => rfl); (case hr => first | (go_simp; done) | (go_simp; rfl))
       intro gb347 hg w74 hbox hb
       have n0_ := a0_ (Kd.R_below (kR_ HO343.out) hb)
       have n1_ := a0_ (Kd.R_below (kR_ HO346.out) hb)
       have n2_ := a0_ (bkB_ BK339 hb)
       have n3_ := a0_ (bkB_ BK340 hb)
       have n4_ := a0_ (below_step bq1_ hb)
       have n5_ := a0_ (hbox)
       have n6_ := a0_ ((by rw [hg]; exact (below_size bq1_) : w.heap.size ≤ gb347))
       have n7_ := a0_ ((by rw [hg]; exact (below_size bq1_) : w.heap.size ≤ gb347))
       have n8_ := a0_ ((by rw [hg]; exact Nat.ne_of_lt (blk_lt (g := gb339) (o := .cells #[.int .i64 a0_0, .bool false, .bool a0_2, .int .i64 a0_3, .string a0_4, .int .i64 a0_5, .slice A0_6 l0_6.length c0_6, .slice A0_7 l0_7.length c0_7] 24 (0, 0)) (kB_ BK339.out)) : gb339 ≠ gb347))
       have n9_ := a0_ ((by rw [hg]; exact Nat.ne_of_gt (blk_lt (g := gb339) (o := .cells #[.int .i64 a0_0, .bool false, .bool a0_2, .int .i64 a0_3, .string a0_4, .int .i64 a0_5, .slice A0_6 l0_6.length c0_6, .slice A0_7 l0_7.length c0_7] 24 (0, 0)) (kB_ BK339.out)) : gb347 ≠ gb339))
       have n10_ := a0_ ((by rw [hg]; exact Nat.ne_of_lt (blk_lt (g := gb340) (o := .cells #[.int .i64 0, .bool false, .bool false, .int .i64 0, .string (⟨#[]⟩ : ByteArray), .int .i64 0, .slice none 0 0, .slice none 0 0] 24 (0, 0)) (kB_ BK340.out)) : gb340 ≠ gb347))
       have n11_ := a0_ ((by rw [hg]; exact Nat.ne_of_gt (blk_lt (g := gb340) (o := .cells #[.int .i64 0, .bool false, .bool false, .int .i64 0, .string (⟨#[]⟩ : ByteArray), .int .i64 0, .slice none 0 0, .slice none 0 0] 24 (0, 0)) (kB_ BK340.out)) : gb347 ≠ gb340))
       clear HO343
       clear HO346
       clear BK339
       clear BK340
       clear HB
       have HO343 := n0_
       have HO346 := n1_
       have BK339 := n2_
       have BK340 := n3_
       have HB := n4_
       have BK347 := n5_
       have GW347 := n6_
       have GE347 := n7_
       have NB339_347 := n8_
       have NB347_339 := n9_
       have NB340_347 := n10_
       have NB347_340 := n11_
       clear n0_ n1_ n2_ n3_ n4_ n5_ n6_ n7_ n8_ n9_ n10_ n11_
       clear hb hbox hg
       refine hK.out _ _ ⟨(blk_cell BK339.out 0).trans rfl, (blk_cell BK339.out 1).trans rfl, (blk_cell BK339.out 2).trans rfl, (blk_cell BK339.out 3).trans rfl, (blk_cell BK339.out 4).trans rfl, (blk_cell BK339.out 5).trans rfl, (blk_cell BK339.out 6).trans rfl, (blk_cell BK339.out 7).trans rfl⟩ (fun hHeld => ?_)
       clear hK K
       refine norm_ (a' := ?_) ?_ ?_
       rotate_left
       · show Act.put _ (some 10) _ = _
         simp only [Act.put, List.setIfInBounds_toArray, List.set_cons_zero, List.set_cons_succ, i64_w, i32_w]
         rfl
       exact norm_ (by simp only [putAll, Act.put, List.setIfInBounds_toArray, List.set_cons_zero, List.set_cons_succ]) (hCont (.slice Ao73 t341.length co73, .slice Ao72 t344.length co72, gb347) _ ⟨hHeld, (kR_ (Kd.R_mono HO343.out (fun _ hk => hk.2))), (kR_ (Kd.R_mono HO346.out (fun _ hk => hk.2))), (kB_ BK339.out), (kB_ BK340.out), (kB_ BK347.out), GW347.out, GE347.out, NB339_347.out, NB347_339.out, NB340_347.out, NB347_340.out, bq1_⟩)
     · skip
       refine box_step ?hg (N := 10) ?hd (cs := #[.int .i64 0, .bool false, .bool false, .int .i64 0, .string (⟨#[]⟩ : ByteArray), .int .i64 0, .slice none 0 0, .slice none 0 0]) (t := 24) ?hr ?_; (case hd => rfl); (case hg => rfl); (case hr => first | (go_simp; done) | (go_simp; rfl))
       intro gb347 hg w71 hbox hb
       have n0_ := a0_ (Kd.R_below (kR_ HO343.out) hb)
       have n1_ := a0_ (bkB_ BK339 hb)
       have n2_ := a0_ (bkB_ BK340 hb)
       have n3_ := a0_ (below_step bq1_ hb)
       have n4_ := a0_ (hbox)
       have n5_ := a0_ ((by rw [hg]; exact (below_size bq1_) : w.heap.size ≤ gb347))
       have n6_ := a0_ ((by rw [hg]; exact (below_size bq1_) : w.heap.size ≤ gb347))
       have n7_ := a0_ ((by rw [hg]; exact Nat.ne_of_lt (blk_lt (g := gb339) (o := .cells #[.int .i64 a0_0, .bool false, .bool a0_2, .int .i64 a0_3, .string a0_4, .int .i64 a0_5, .slice A0_6 l0_6.length c0_6, .slice A0_7 l0_7.length c0_7] 24 (0, 0)) (kB_ BK339.out)) : gb339 ≠ gb347))
       have n8_ := a0_ ((by rw [hg]; exact Nat.ne_of_gt (blk_lt (g := gb339) (o := .cells #[.int .i64 a0_0, .bool false, .bool a0_2, .int .i64 a0_3, .string a0_4, .int .i64 a0_5, .slice A0_6 l0_6.length c0_6, .slice A0_7 l0_7.length c0_7] 24 (0, 0)) (kB_ BK339.out)) : gb347 ≠ gb339))
       have n9_ := a0_ ((by rw [hg]; exact Nat.ne_of_lt (blk_lt (g := gb340) (o := .cells #[.int .i64 0, .bool false, .bool false, .int .i64 0, .string (⟨#[]⟩ : ByteArray), .int .i64 0, .slice none 0 0, .slice none 0 0] 24 (0, 0)) (kB_ BK340.out)) : gb340 ≠ gb347))
       have n10_ := a0_ ((by rw [hg]; exact Nat.ne_of_gt (blk_lt (g := gb340) (o := .cells #[.int .i64 0, .bool false, .bool false, .int .i64 0, .string (⟨#[]⟩ : ByteArray), .int .i64 0, .slice none 0 0, .slice none 0 0] 24 (0, 0)) (kB_ BK340.out)) : gb347 ≠ gb340))
       clear HO343
       clear BK339
       clear BK340
       clear HB
       have HO343 := n0_
       have BK339 := n1_
       have BK340 := n2_
       have HB := n3_
       have BK347 := n4_
       have GW347 := n5_
       have GE347 := n6_
       have NB339_347 := n7_
       have NB347_339 := n8_
       have NB340_347 := n9_
       have NB347_340 := n10_
       clear n0_ n1_ n2_ n3_ n4_ n5_ n6_ n7_ n8_ n9_ n10_
       clear hb hbox hg
       refine hK.out _ _ ⟨(blk_cell BK339.out 0).trans rfl, (blk_cell BK339.out 1).trans rfl, (blk_cell BK339.out 2).trans rfl, (blk_cell BK339.out 3).trans rfl, (blk_cell BK339.out 4).trans rfl, (blk_cell BK339.out 5).trans rfl, (blk_cell BK339.out 6).trans rfl, (blk_cell BK339.out 7).trans rfl⟩ (fun hHeld => ?_)
       clear hK K
       refine norm_ (a' := ?_) ?_ ?_
       rotate_left
       · show Act.put _ (some 10) _ = _
         simp only [Act.put, List.setIfInBounds_toArray, List.set_cons_zero, List.set_cons_succ, i64_w, i32_w]
         rfl
       refine one_ (i := 10) (N := some 21) #[true, true, true, true, true, true, true, true, true, true, true, false, true, false] rfl rfl (one_of HT_.out (by kernel_rfl)) (by decide) (fun K hK => ?_)
       refine goes_ Tryz.func52 (by kernel_rfl) rfl #[.slice A3 l3.length c3] (by rfl) rfl rfl argsS_ ?_
       with_reducible refine (slices_Clone_rec.calls _ _ l3 t344 _ ?side1 ?side2 A6.out).mono ?_
       (case side1 => exact kC_ HR3.out HB.out)
       (case side2 => exact HC3.out)
       rintro e w72 ⟨v345, rfl, ho0, hb⟩
       refine ⟨_, rfl, ?_⟩
       have n0_ := a0_ (Kd.R_elder' (kR_ HO343.out) (Kd.R_base ho0) hb)
       have n1_ := a0_ (Kd.R_lower (Kd.R_new' ho0 (Kd.R_lt (kR_ HO343.out))) (below_size bq1_))
       have n2_ := a0_ (bkB_ BK339 hb)
       have n3_ := a0_ (bkB_ BK340 hb)
       have n4_ := a0_ (bkB_ BK347 hb)
       have n5_ := a0_ (below_step bq1_ hb)
       clear HO343
       clear BK339
       clear BK340
       clear BK347
       clear HB
       have HO343 := n0_
       have HO346 := n1_
       have BK339 := n2_
       have BK340 := n3_
       have BK347 := n4_
       have HB := n5_
       clear n0_ n1_ n2_ n3_ n4_ n5_
       (try clear hb)
       (try clear hb2)
       (try clear hk)
       (try clear hi)
       (try clear ho0)
       obtain ⟨Ao73, co73, eo73⟩ := Kd.R_slice HO346.out
       (first | subst eo73 | (injection eo73 with f1_ f2_ f3_; have f4_ := f1_.symm; have f5_ := f3_.symm; clear f1_ f2_ f3_; subst f4_; subst f5_))
       obtain ⟨Ao74, co74, eo74⟩ := Kd.R_slice HO343.out
       (first | subst eo74 | (injection eo74 with f1_ f2_ f3_; have f4_ := f1_.symm; have f5_ := f3_.symm; clear f1_ f2_ f3_; subst f4_; subst f5_))
       refine hK.out _ _ ⟨(blk_cell BK339.out 0).trans rfl, (blk_cell BK339.out 1).trans rfl, (blk_cell BK339.out 2).trans rfl, (blk_cell BK339.out 3).trans rfl, (blk_cell BK339.out 4).trans rfl, (blk_cell BK339.out 5).trans rfl, (blk_cell BK339.out 6).trans rfl, (blk_cell BK339.out 7).trans rfl⟩ (fun hHeld => ?_)
       clear hK K
       refine norm_ (a' := ?_) ?_ ?_
       rotate_left
       · show Act.put _ (some 21) _ = _
         simp only [Act.put, List.setIfInBounds_toArray, List.set_cons_zero, List.set_cons_succ, i64_w, i32_w]
         rfl
       refine pure_ (i := 11) (N := some 22) (v := ?_) (a' := ?_) #[true, true, true, true, true, true, true, true, true, true, true, true, true, false] rfl rfl (any_of HT_.out (by kernel_rfl)) (fun _ _ _ h => h) (Or.inl ⟨by rfl, ?_⟩) ?_ ?_
       rotate_left
       · intro w'
         go_simp
         with_reducible rfl
       rotate_left
       · simp only [Act.put, List.setIfInBounds_toArray, List.set_cons_zero, List.set_cons_succ, i64_w, i32_w]
         rfl
       exact norm_ (by simp only [putAll, Act.put, List.setIfInBounds_toArray, List.set_cons_zero, List.set_cons_succ]) (hCont (.slice Ao74 t341.length co74, .slice Ao73 t344.length co73, gb347) _ ⟨hHeld, (kR_ (Kd.R_mono HO343.out (fun _ hk => hk.2))), (kR_ (Kd.R_mono HO346.out (fun _ hk => hk.2))), (kB_ BK339.out), (kB_ BK340.out), (kB_ BK347.out), GW347.out, GE347.out, NB339_347.out, NB347_339.out, NB340_347.out, NB347_340.out, bq1_⟩)
   · skip
     refine box_step ?hg (N := 10) ?hd (cs := #[.int .i64 0, .bool false, .bool false, .int .i64 0, .string (⟨#[]⟩ : ByteArray), .int .i64 0, .slice none 0 0, .slice none 0 0]) (t := 24) ?hr ?_; (case hd => rfl); (case hg => rfl); (case hr => first | (go_simp; done) | (go_simp; rfl))
     intro gb347 hg w70 hbox hb
     have n0_ := a0_ (bkB_ BK339 hb)
     have n1_ := a0_ (bkB_ BK340 hb)
     have n2_ := a0_ (below_step bq1_ hb)
     have n3_ := a0_ (hbox)
     have n4_ := a0_ ((by rw [hg]; exact (below_size bq1_) : w.heap.size ≤ gb347))
     have n5_ := a0_ ((by rw [hg]; exact (below_size bq1_) : w.heap.size ≤ gb347))
     have n6_ := a0_ ((by rw [hg]; exact Nat.ne_of_lt (blk_lt (g := gb339) (o := .cells #[.int .i64 a0_0, .bool false, .bool a0_2, .int .i64 a0_3, .string a0_4, .int .i64 a0_5, .slice A0_6 l0_6.length c0_6, .slice A0_7 l0_7.length c0_7] 24 (0, 0)) (kB_ BK339.out)) : gb339 ≠ gb347))
     have n7_ := a0_ ((by rw [hg]; exact Nat.ne_of_gt (blk_lt (g := gb339) (o := .cells #[.int .i64 a0_0, .bool false, .bool a0_2, .int .i64 a0_3, .string a0_4, .int .i64 a0_5, .slice A0_6 l0_6.length c0_6, .slice A0_7 l0_7.length c0_7] 24 (0, 0)) (kB_ BK339.out)) : gb347 ≠ gb339))
     have n8_ := a0_ ((by rw [hg]; exact Nat.ne_of_lt (blk_lt (g := gb340) (o := .cells #[.int .i64 0, .bool false, .bool false, .int .i64 0, .string (⟨#[]⟩ : ByteArray), .int .i64 0, .slice none 0 0, .slice none 0 0] 24 (0, 0)) (kB_ BK340.out)) : gb340 ≠ gb347))
     have n9_ := a0_ ((by rw [hg]; exact Nat.ne_of_gt (blk_lt (g := gb340) (o := .cells #[.int .i64 0, .bool false, .bool false, .int .i64 0, .string (⟨#[]⟩ : ByteArray), .int .i64 0, .slice none 0 0, .slice none 0 0] 24 (0, 0)) (kB_ BK340.out)) : gb347 ≠ gb340))
     clear BK339
     clear BK340
     clear HB
     have BK339 := n0_
     have BK340 := n1_
     have HB := n2_
     have BK347 := n3_
     have GW347 := n4_
     have GE347 := n5_
     have NB339_347 := n6_
     have NB347_339 := n7_
     have NB340_347 := n8_
     have NB347_340 := n9_
     clear n0_ n1_ n2_ n3_ n4_ n5_ n6_ n7_ n8_ n9_
     clear hb hbox hg
     refine hK.out _ _ ⟨(blk_cell BK339.out 0).trans rfl, (blk_cell BK339.out 1).trans rfl, (blk_cell BK339.out 2).trans rfl, (blk_cell BK339.out 3).trans rfl, (blk_cell BK339.out 4).trans rfl, (blk_cell BK339.out 5).trans rfl, (blk_cell BK339.out 6).trans rfl, (blk_cell BK339.out 7).trans rfl⟩ (fun hHeld => ?_)
     clear hK K
     refine norm_ (a' := ?_) ?_ ?_
     rotate_left
     · show Act.put _ (some 10) _ = _
       simp only [Act.put, List.setIfInBounds_toArray, List.set_cons_zero, List.set_cons_succ, i64_w, i32_w]
       rfl
     refine one_ (i := 8) (N := some 19) #[true, true, true, true, true, true, true, true, true, true, false, false, true, false] rfl rfl (one_of HT_.out (by kernel_rfl)) (by decide) (fun K hK => ?_)
     refine goes_ Tryz.func52 (by kernel_rfl) rfl #[.slice A2 l2.length c2] (by rfl) rfl rfl argsS_ ?_
     with_reducible refine (slices_Clone_rec.calls _ _ l2 t341 _ ?side1 ?side2 A5.out).mono ?_
     (case side1 => exact kC_ HR2.out HB.out)
     (case side2 => exact HC2.out)
     rintro e w71 ⟨v342, rfl, ho0, hb⟩
     refine ⟨_, rfl, ?_⟩
     have HO343 := a0_ (Kd.R_lower ho0 (below_size bq1_))
     replace BK339 := a0_ (bkB_ BK339 hb)
     replace BK340 := a0_ (bkB_ BK340 hb)
     replace BK347 := a0_ (bkB_ BK347 hb)
     replace HB := a0_ (below_step bq1_ hb)
     (try clear hb)
     (try clear hb2)
     (try clear hk)
     (try clear hi)
     (try clear ho0)
     refine hK.out _ _ ⟨(blk_cell BK339.out 0).trans rfl, (blk_cell BK339.out 1).trans rfl, (blk_cell BK339.out 2).trans rfl, (blk_cell BK339.out 3).trans rfl, (blk_cell BK339.out 4).trans rfl, (blk_cell BK339.out 5).trans rfl, (blk_cell BK339.out 6).trans rfl, (blk_cell BK339.out 7).trans rfl⟩ (fun hHeld => ?_)
     clear hK K
     refine norm_ (a' := ?_) ?_ ?_
     rotate_left
     · show Act.put _ (some 19) _ = _
       simp only [Act.put, List.setIfInBounds_toArray, List.set_cons_zero, List.set_cons_succ, i64_w, i32_w]
       rfl
     refine one_ (i := 10) (N := some 21) #[true, true, true, true, true, true, true, true, true, true, true, false, true, false] rfl rfl (one_of HT_.out (by kernel_rfl)) (by decide) (fun K hK => ?_)
     refine goes_ Tryz.func52 (by kernel_rfl) rfl #[.slice A3 l3.length c3] (by rfl) rfl rfl argsS_ ?_
     with_reducible refine (slices_Clone_rec.calls _ _ l3 t344 _ ?side1 ?side2 A6.out).mono ?_
     (case side1 => exact kC_ HR3.out HB.out)
     (case side2 => exact HC3.out)
     rintro e w72 ⟨v345, rfl, ho0, hb⟩
     refine ⟨_, rfl, ?_⟩
     have n0_ := a0_ (Kd.R_elder' (kR_ HO343.out) (Kd.R_base ho0) hb)
     have n1_ := a0_ (Kd.R_lower (Kd.R_new' ho0 (Kd.R_lt (kR_ HO343.out))) (below_size bq1_))
     have n2_ := a0_ (bkB_ BK339 hb)
     have n3_ := a0_ (bkB_ BK340 hb)
     have n4_ := a0_ (bkB_ BK347 hb)
     have n5_ := a0_ (below_step bq1_ hb)
     clear HO343
     clear BK339
     clear BK340
     clear BK347
     clear HB
     have HO343 := n0_
     have HO346 := n1_
     have BK339 := n2_
     have BK340 := n3_
     have BK347 := n4_
     have HB := n5_
     clear n0_ n1_ n2_ n3_ n4_ n5_
     (try clear hb)
     (try clear hb2)
     (try clear hk)
     (try clear hi)
     (try clear ho0)
     obtain ⟨Ao73, co73, eo73⟩ := Kd.R_slice HO346.out
     (first | subst eo73 | (injection eo73 with f1_ f2_ f3_; have f4_ := f1_.symm; have f5_ := f3_.symm; clear f1_ f2_ f3_; subst f4_; subst f5_))
     obtain ⟨Ao74, co74, eo74⟩ := Kd.R_slice HO343.out
     (first | subst eo74 | (injection eo74 with f1_ f2_ f3_; have f4_ := f1_.symm; have f5_ := f3_.symm; clear f1_ f2_ f3_; subst f4_; subst f5_))
     refine hK.out _ _ ⟨(blk_cell BK339.out 0).trans rfl, (blk_cell BK339.out 1).trans rfl, (blk_cell BK339.out 2).trans rfl, (blk_cell BK339.out 3).trans rfl, (blk_cell BK339.out 4).trans rfl, (blk_cell BK339.out 5).trans rfl, (blk_cell BK339.out 6).trans rfl, (blk_cell BK339.out 7).trans rfl⟩ (fun hHeld => ?_)
     clear hK K
     refine norm_ (a' := ?_) ?_ ?_
     rotate_left
     · show Act.put _ (some 21) _ = _
       simp only [Act.put, List.setIfInBounds_toArray, List.set_cons_zero, List.set_cons_succ, i64_w, i32_w]
       rfl
     refine pure_ (i := 11) (N := some 22) (v := ?_) (a' := ?_) #[true, true, true, true, true, true, true, true, true, true, true, true, true, false] rfl rfl (any_of HT_.out (by kernel_rfl)) (fun _ _ _ h => h) (Or.inl ⟨by rfl, ?_⟩) ?_ ?_
     rotate_left
     · intro w'
       go_simp
       with_reducible rfl
     rotate_left
     · simp only [Act.put, List.setIfInBounds_toArray, List.set_cons_zero, List.set_cons_succ, i64_w, i32_w]
       rfl
     exact norm_ (by simp only [putAll, Act.put, List.setIfInBounds_toArray, List.set_cons_zero, List.set_cons_succ]) (hCont (.slice Ao74 t341.length co74, .slice Ao73 t344.length co73, gb347) _ ⟨hHeld, (kR_ (Kd.R_mono HO343.out (fun _ hk => hk.2))), (kR_ (Kd.R_mono HO346.out (fun _ hk => hk.2))), (kB_ BK339.out), (kB_ BK340.out), (kB_ BK347.out), GW347.out, GE347.out, NB339_347.out, NB347_339.out, NB340_347.out, NB347_340.out, bq1_⟩)
 rintro ⟨v342, v345, gb347⟩ w75 ⟨hS_, h0_, h1_, h2_, h3_, h4_, h5_, h6_, h7_, h8_, h9_, h10_, h11_⟩
 have n0_ : Aside0 (Kd.R k72 72 w75 w.heap.size (fun k_ => some k_ ≠ (v345 : Value).ownBlock) v342 t341) := ⟨h0_⟩
 have n1_ : Aside0 (Kd.R k72 72 w75 w.heap.size (fun k_ => some k_ ≠ (v342 : Value).ownBlock) v345 t344) := ⟨h1_⟩
 have n2_ : Aside0 (w75.heap[gb339]? = some (.cells #[.int .i64 a0_0, .bool false, .bool a0_2, .int .i64 a0_3, .string a0_4, .int .i64 a0_5, .slice A0_6 l0_6.length c0_6, .slice A0_7 l0_7.length c0_7] 24 (0, 0))) := ⟨h2_⟩
 have n3_ : Aside0 (w75.heap[gb340]? = some (.cells #[.int .i64 0, .bool false, .bool false, .int .i64 0, .string (⟨#[]⟩ : ByteArray), .int .i64 0, .slice none 0 0, .slice none 0 0] 24 (0, 0))) := ⟨h3_⟩
 have n4_ : Aside0 (w75.heap[gb347]? = some (.cells #[.int .i64 0, .bool false, .bool false, .int .i64 0, .string (⟨#[]⟩ : ByteArray), .int .i64 0, .slice none 0 0, .slice none 0 0] 24 (0, 0))) := ⟨h4_⟩
 have n5_ : Aside0 (w.heap.size ≤ gb347) := ⟨h5_⟩
 have n6_ : Aside0 (w.heap.size ≤ gb347) := ⟨h6_⟩
 have n7_ : Aside0 (gb339 ≠ gb347) := ⟨h7_⟩
 have n8_ : Aside0 (gb347 ≠ gb339) := ⟨h8_⟩
 have n9_ : Aside0 (gb340 ≠ gb347) := ⟨h9_⟩
 have n10_ : Aside0 (gb347 ≠ gb340) := ⟨h10_⟩
 have n11_ : Aside0 (Below w.heap.size w w75) := ⟨h11_⟩
 clear BK339
 clear BK340
 clear HB
 clear h0_ h1_ h2_ h3_ h4_ h5_ h6_ h7_ h8_ h9_ h10_ h11_
 have HO343 := n0_
 have HO346 := n1_
 have BK339 := n2_
 have BK340 := n3_
 have BK347 := n4_
 have GW347 := n5_
 have GE347 := n6_
 have NB339_347 := n7_
 have NB347_339 := n8_
 have NB340_347 := n9_
 have NB347_340 := n10_
 have HB := n11_
 clear n0_ n1_ n2_ n3_ n4_ n5_ n6_ n7_ n8_ n9_ n10_ n11_
 have hHeld : w75.cell? ⟨gb339, 0, none⟩ = some (.int .i64 a0_0) ∧ w75.cell? ⟨gb339, 1, none⟩ = some (.bool false) ∧ w75.cell? ⟨gb339, 2, none⟩ = some (.bool a0_2) ∧ w75.cell? ⟨gb339, 3, none⟩ = some (.int .i64 a0_3) ∧ w75.cell? ⟨gb339, 4, none⟩ = some (.string a0_4) ∧ w75.cell? ⟨gb339, 5, none⟩ = some (.int .i64 a0_5) ∧ w75.cell? ⟨gb339, 6, none⟩ = some (.slice A0_6 l0_6.length c0_6) ∧ w75.cell? ⟨gb339, 7, none⟩ = some (.slice A0_7 l0_7.length c0_7) := hS_
 obtain ⟨Ao76, co76, eo76⟩ := Kd.R_slice HO346.out
 (first | subst eo76 | (injection eo76 with f1_ f2_ f3_; have f4_ := f1_.symm; have f5_ := f3_.symm; clear f1_ f2_ f3_; subst f4_; subst f5_))
 obtain ⟨Ao77, co77, eo77⟩ := Kd.R_slice HO343.out
 (first | subst eo77 | (injection eo77 with f1_ f2_ f3_; have f4_ := f1_.symm; have f5_ := f3_.symm; clear f1_ f2_ f3_; subst f4_; subst f5_))
 refine norm_ (a' := ?_) ?_ ?_
 rotate_left
 · simp only [putAll, Act.put, List.setIfInBounds_toArray, List.set_cons_zero, List.set_cons_succ]
   rfl
 refine one_ (i := 13) (N := none) #[true, true, true, true, true, true, true, true, true, true, true, true, true, true] rfl rfl (one_of HT_.out (by kernel_rfl)) (by decide) (fun K hK => ?_)
 have hs78 : w75.cell? ⟨gb347, 0, none⟩ = some (.int .i64 0) := (blk_cell BK347.out 0).trans rfl
 have hfs78 := blk_frozen BK347.out 0
 have hns78_0 := NB339_347.out
 have hns78_1 := NB340_347.out
 have hms78_0 := NB347_339.out
 have hms78_1 := NB347_340.out
 have hs79 : w75.cell? ⟨gb347, 1, none⟩ = some (.bool false) := (blk_cell BK347.out 1).trans rfl
 have hfs79 := blk_frozen BK347.out 1
 have hns79_0 := NB339_347.out
 have hns79_1 := NB340_347.out
 have hms79_0 := NB347_339.out
 have hms79_1 := NB347_340.out
 have hs80 : w75.cell? ⟨gb347, 2, none⟩ = some (.bool false) := (blk_cell BK347.out 2).trans rfl
 have hfs80 := blk_frozen BK347.out 2
 have hns80_0 := NB339_347.out
 have hns80_1 := NB340_347.out
 have hms80_0 := NB347_339.out
 have hms80_1 := NB347_340.out
 have hs81 : w75.cell? ⟨gb347, 3, none⟩ = some (.int .i64 0) := (blk_cell BK347.out 3).trans rfl
 have hfs81 := blk_frozen BK347.out 3
 have hns81_0 := NB339_347.out
 have hns81_1 := NB340_347.out
 have hms81_0 := NB347_339.out
 have hms81_1 := NB347_340.out
 have hs82 : w75.cell? ⟨gb347, 4, none⟩ = some (.string (⟨#[]⟩ : ByteArray)) := (blk_cell BK347.out 4).trans rfl
 have hfs82 := blk_frozen BK347.out 4
 have hns82_0 := NB339_347.out
 have hns82_1 := NB340_347.out
 have hms82_0 := NB347_339.out
 have hms82_1 := NB347_340.out
 have hs83 : w75.cell? ⟨gb347, 5, none⟩ = some (.int .i64 0) := (blk_cell BK347.out 5).trans rfl
 have hfs83 := blk_frozen BK347.out 5
 have hns83_0 := NB339_347.out
 have hns83_1 := NB340_347.out
 have hms83_0 := NB347_339.out
 have hms83_1 := NB347_340.out
 have hs84 : w75.cell? ⟨gb347, 6, none⟩ = some (.slice none 0 0) := (blk_cell BK347.out 6).trans rfl
 have hfs84 := blk_frozen BK347.out 6
 have hns84_0 := NB339_347.out
 have hns84_1 := NB340_347.out
 have hms84_0 := NB347_339.out
 have hms84_1 := NB347_340.out
 have hs85 : w75.cell? ⟨gb347, 7, none⟩ = some (.slice none 0 0) := (blk_cell BK347.out 7).trans rfl
 have hfs85 := blk_frozen BK347.out 7
 have hns85_0 := NB339_347.out
 have hns85_1 := NB340_347.out
 have hms85_0 := NB347_339.out
 have hms85_1 := NB347_340.out
 refine skip_ (w1 := ?_) (by rfl) rfl ?_ ?_
 rotate_left
 · go_simp
   rfl
 refine hK.out _ _ ⟨((cell_far (p := ⟨gb347, _, none⟩) NB339_347.out _).trans (((cell_far (p := ⟨gb347, _, none⟩) NB339_347.out _).trans (((cell_far (p := ⟨gb347, _, none⟩) NB339_347.out _).trans (((cell_far (p := ⟨gb347, _, none⟩) NB339_347.out _).trans (((cell_far (p := ⟨gb347, _, none⟩) NB339_347.out _).trans (((cell_far (p := ⟨gb347, _, none⟩) NB339_347.out _).trans (((cell_far (p := ⟨gb347, _, none⟩) NB339_347.out _).trans (((cell_far (p := ⟨gb347, _, none⟩) NB339_347.out _).trans (hHeld.1)))))))))))))))), ((cell_far (p := ⟨gb347, _, none⟩) NB339_347.out _).trans (((cell_far (p := ⟨gb347, _, none⟩) NB339_347.out _).trans (((cell_far (p := ⟨gb347, _, none⟩) NB339_347.out _).trans (((cell_far (p := ⟨gb347, _, none⟩) NB339_347.out _).trans (((cell_far (p := ⟨gb347, _, none⟩) NB339_347.out _).trans (((cell_far (p := ⟨gb347, _, none⟩) NB339_347.out _).trans (((cell_far (p := ⟨gb347, _, none⟩) NB339_347.out _).trans (((cell_far (p := ⟨gb347, _, none⟩) NB339_347.out _).trans (hHeld.2.1)))))))))))))))), ((cell_far (p := ⟨gb347, _, none⟩) NB339_347.out _).trans (((cell_far (p := ⟨gb347, _, none⟩) NB339_347.out _).trans (((cell_far (p := ⟨gb347, _, none⟩) NB339_347.out _).trans (((cell_far (p := ⟨gb347, _, none⟩) NB339_347.out _).trans (((cell_far (p := ⟨gb347, _, none⟩) NB339_347.out _).trans (((cell_far (p := ⟨gb347, _, none⟩) NB339_347.out _).trans (((cell_far (p := ⟨gb347, _, none⟩) NB339_347.out _).trans (((cell_far (p := ⟨gb347, _, none⟩) NB339_347.out _).trans (hHeld.2.2.1)))))))))))))))), ((cell_far (p := ⟨gb347, _, none⟩) NB339_347.out _).trans (((cell_far (p := ⟨gb347, _, none⟩) NB339_347.out _).trans (((cell_far (p := ⟨gb347, _, none⟩) NB339_347.out _).trans (((cell_far (p := ⟨gb347, _, none⟩) NB339_347.out _).trans (((cell_far (p := ⟨gb347, _, none⟩) NB339_347.out _).trans (((cell_far (p := ⟨gb347, _, none⟩) NB339_347.out _).trans (((cell_far (p := ⟨gb347, _, none⟩) NB339_347.out _).trans (((cell_far (p := ⟨gb347, _, none⟩) NB339_347.out _).trans (hHeld.2.2.2.1)))))))))))))))), ((cell_far (p := ⟨gb347, _, none⟩) NB339_347.out _).trans (((cell_far (p := ⟨gb347, _, none⟩) NB339_347.out _).trans (((cell_far (p := ⟨gb347, _, none⟩) NB339_347.out _).trans (((cell_far (p := ⟨gb347, _, none⟩) NB339_347.out _).trans (((cell_far (p := ⟨gb347, _, none⟩) NB339_347.out _).trans (((cell_far (p := ⟨gb347, _, none⟩) NB339_347.out _).trans (((cell_far (p := ⟨gb347, _, none⟩) NB339_347.out _).trans (((cell_far (p := ⟨gb347, _, none⟩) NB339_347.out _).trans (hHeld.2.2.2.2.1)))))))))))))))), ((cell_far (p := ⟨gb347, _, none⟩) NB339_347.out _).trans (((cell_far (p := ⟨gb347, _, none⟩) NB339_347.out _).trans (((cell_far (p := ⟨gb347, _, none⟩) NB339_347.out _).trans (((cell_far (p := ⟨gb347, _, none⟩) NB339_347.out _).trans (((cell_far (p := ⟨gb347, _, none⟩) NB339_347.out _).trans (((cell_far (p := ⟨gb347, _, none⟩) NB339_347.out _).trans (((cell_far (p := ⟨gb347, _, none⟩) NB339_347.out _).trans (((cell_far (p := ⟨gb347, _, none⟩) NB339_347.out _).trans (hHeld.2.2.2.2.2.1)))))))))))))))), ((cell_far (p := ⟨gb347, _, none⟩) NB339_347.out _).trans (((cell_far (p := ⟨gb347, _, none⟩) NB339_347.out _).trans (((cell_far (p := ⟨gb347, _, none⟩) NB339_347.out _).trans (((cell_far (p := ⟨gb347, _, none⟩) NB339_347.out _).trans (((cell_far (p := ⟨gb347, _, none⟩) NB339_347.out _).trans (((cell_far (p := ⟨gb347, _, none⟩) NB339_347.out _).trans (((cell_far (p := ⟨gb347, _, none⟩) NB339_347.out _).trans (((cell_far (p := ⟨gb347, _, none⟩) NB339_347.out _).trans (hHeld.2.2.2.2.2.2.1)))))))))))))))), ((cell_far (p := ⟨gb347, _, none⟩) NB339_347.out _).trans (((cell_far (p := ⟨gb347, _, none⟩) NB339_347.out _).trans (((cell_far (p := ⟨gb347, _, none⟩) NB339_347.out _).trans (((cell_far (p := ⟨gb347, _, none⟩) NB339_347.out _).trans (((cell_far (p := ⟨gb347, _, none⟩) NB339_347.out _).trans (((cell_far (p := ⟨gb347, _, none⟩) NB339_347.out _).trans (((cell_far (p := ⟨gb347, _, none⟩) NB339_347.out _).trans (((cell_far (p := ⟨gb347, _, none⟩) NB339_347.out _).trans (hHeld.2.2.2.2.2.2.2))))))))))))))))⟩ (fun hHeld => ?_)
 clear hK K
 refine done_ (done_of HT_.out (by kernel_rfl)) ?_
 have hnb86 := NB339_340.out
 have hnc86 := NB340_339.out
 have hnb87 := NB339_347.out
 have hnc87 := NB347_339.out
 have z88_0 : w75.cell? ⟨gb339, 0, none⟩ = some (.int .i64 a0_0) := (blk_cell BK339.out 0).trans rfl
 have z88_1 : w75.cell? ⟨gb339, 1, none⟩ = some (.bool false) := (blk_cell BK339.out 1).trans rfl
 have z88_2 : w75.cell? ⟨gb339, 2, none⟩ = some (.bool a0_2) := (blk_cell BK339.out 2).trans rfl
 have z88_3 : w75.cell? ⟨gb339, 3, none⟩ = some (.int .i64 a0_3) := (blk_cell BK339.out 3).trans rfl
 have z88_4 : w75.cell? ⟨gb339, 4, none⟩ = some (.string a0_4) := (blk_cell BK339.out 4).trans rfl
 have z88_5 : w75.cell? ⟨gb339, 5, none⟩ = some (.int .i64 a0_5) := (blk_cell BK339.out 5).trans rfl
 have z88_6 : w75.cell? ⟨gb339, 6, none⟩ = some (.slice A0_6 l0_6.length c0_6) := (blk_cell BK339.out 6).trans rfl
 have z88_7 : w75.cell? ⟨gb339, 7, none⟩ = some (.slice A0_7 l0_7.length c0_7) := (blk_cell BK339.out 7).trans rfl
 have q88_0 := blk_frozen BK339.out 0
 have q88_1 := blk_frozen BK339.out 1
 have q88_2 := blk_frozen BK339.out 2
 have q88_3 := blk_frozen BK339.out 3
 have q88_4 := blk_frozen BK339.out 4
 have q88_5 := blk_frozen BK339.out 5
 have q88_6 := blk_frozen BK339.out 6
 have q88_7 := blk_frozen BK339.out 7
 try go_wp2_with (first | ((with_reducible refine gate_callee (f := 49) rfl ?_); refine goesL_ (some 24) rfl rfl Tryz.func49 (by kernel_rfl) rfl #[.agg #[.int .i64 a0_0, .bool false, .bool a0_2, .int .i64 a0_3, .string a0_4, .int .i64 a0_5, .slice A0_6 l0_6.length c0_6, .slice A0_7 l0_7.length c0_7]] rfl argsS_ ?_; (with_reducible refine (impl_GoodMessage.calls k a0_0 false a0_2 a0_3 a0_4 a0_5 _ _ l0_6 _ _ l0_7 true _ ?side1 ?side2 ?side3 ?side4 A7.out).mono ?_); (case side1 => exact Kd.C_below HR0_6.out bq1_); (case side2 => exact HC0_6.out); (case side3 => exact Kd.C_below HR0_7.out bq1_); (case side4 => exact HC0_7.out); rintro e w89 ⟨rfl, hb⟩; refine ⟨_, rfl, ?_⟩; replace HO343 := a0_ (Kd.R_below (kR_ (farR8_ HO343.out BK347.out)) hb); replace HO346 := a0_ (Kd.R_below (kR_ (farR8_ HO346.out BK347.out)) hb); replace BK339 := a0_ (blk_below (g := gb339) (o := .cells #[.int .i64 a0_0, .bool false, .bool a0_2, .int .i64 a0_3, .string a0_4, .int .i64 a0_5, .slice A0_6 l0_6.length c0_6, .slice A0_7 l0_7.length c0_7] 24 (0, 0)) (bfar8_ NB339_347.out BK339.out) hb); replace BK340 := a0_ (blk_below (g := gb340) (o := .cells #[.int .i64 0, .bool false, .bool false, .int .i64 0, .string (⟨#[]⟩ : ByteArray), .int .i64 0, .slice none 0 0, .slice none 0 0] 24 (0, 0)) (bfar8_ NB340_347.out BK340.out) hb); replace BK347 := a0_ (blk_below (g := gb347) (o := .cells #[.int .i64 a0_0, .bool true, .bool false, .int .i64 a1, .string a0_4, .int .i64 a0_5, .slice Ao77 t341.length co77, .slice Ao76 t344.length co76] 24 (0, 0)) (put8_ BK347.out) hb); replace HB := a0_ (below_step bq1_ hb); (try clear hb); (try clear hb2); (try clear hk); (try clear hi); obtain ⟨z90_0, z90_1, z90_2, z90_3, z90_4, z90_5, z90_6, z90_7, q90_0, q90_1, q90_2, q90_3, q90_4, q90_5, q90_6, q90_7⟩ := bk8_ BK339.out; have hnb91 := NB347_340.out; have hnc91 := NB340_347.out; obtain ⟨z92_0, z92_1, z92_2, z92_3, z92_4, z92_5, z92_6, z92_7, q92_0, q92_1, q92_2, q92_3, q92_4, q92_5, q92_6, q92_7⟩ := bk8_ BK347.out) | (go_at_call 49; (with_reducible refine (impl_GoodMessage.calls k a0_0 true false a1 a0_4 a0_5 _ _ t341 _ _ t344 false _ ?side1 ?side2 ?side3 ?side4 A36.out).mono ?_); (case side1 => exact kD_ (Kd.R_reads' HO343.out).2.2); (case side2 => exact (Kd.R_reads' HO343.out).2.1); (case side3 => exact kD_ (Kd.R_reads' HO346.out).2.2); (case side4 => exact (Kd.R_reads' HO346.out).2.1); rintro e w93 ⟨rfl, hb⟩; replace HO343 := a0_ (Kd.R_below (kR_ HO343.out) hb); replace HO346 := a0_ (Kd.R_below (kR_ HO346.out) hb); replace BK339 := a0_ (bkB_ BK339 hb); replace BK340 := a0_ (bkB_ BK340 hb); replace BK347 := a0_ (bkB_ BK347 hb); replace HB := a0_ (below_step bq1_ hb); (try clear hb); (try clear hb2); (try clear hk); (try clear hi); obtain ⟨z94_0, z94_1, z94_2, z94_3, z94_4, z94_5, z94_6, z94_7, q94_0, q94_1, q94_2, q94_3, q94_4, q94_5, q94_6, q94_7⟩ := bk8_ BK340.out))
 refine bodyPost_ret (results_ct rfl _ _ gb340 24 #[.int .i64 0, .bool false, .bool false, .int .i64 0, .string (⟨#[]⟩ : ByteArray), .int .i64 0, .slice none 0 0, .slice none 0 0] (0, 0) _ rfl (put8_ BK340.out) Tryz.underlying24 rfl (by kernel_rfl)) rfl ?_
 exact ⟨_, _, rr_, by first | exact Kd.R_nil _ _ _ _ _ | exact Kd.N_nil _ _ _ _ _ | exact Kd.V_nil _ _ _ _ _ | exact Kd.Q_nil _ _ _ _ _ | exact Kd.S_nil _ _ _ _ _, by first | exact Kd.R_nil _ _ _ _ _ | exact Kd.N_nil _ _ _ _ _ | exact Kd.V_nil _ _ _ _ _ | exact Kd.Q_nil _ _ _ _ _ | exact Kd.S_nil _ _ _ _ _, bq1_⟩
end Go.Proofs.YtkpkfallgjdkmaaGreatDoor.P
