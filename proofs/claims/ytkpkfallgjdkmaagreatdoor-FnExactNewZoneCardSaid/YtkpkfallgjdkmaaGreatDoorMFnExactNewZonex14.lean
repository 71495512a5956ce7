/- FnExactNewZone: part 15 of 29 of my texts for this claim, joined; the theorem stands in the last. Conditions: none beyond the statement's. -/
import Derived.Test.YtkpkfallgjdkmaaGreatDoorMFnExactNewZonex4
import Derived.Test.YtkpkfallgjdkmaaGreatDoorMFnExactNewZonex12
import Derived.Test.YtkpkfallgjdkmaaGreatDoorMFnExactNewZonex7
import Derived.Test.YtkpkfallgjdkmaaGreatDoorMFnExactNewZonex13
import Derived.Test.YtkpkfallgjdkmaaGreatDoorMFnExactNewZonex9
import Derived.Test.YtkpkfallgjdkmaaGreatDoorMFnExactNewZonex5
import Derived.Test.YtkpkfallgjdkmaaGreatDoorMFnExactNewZonex8
import Derived.Test.YtkpkfallgjdkmaaGreatDoorMFnExactNewZonex6
namespace Go.Proofs.YtkpkfallgjdkmaaGreatDoor.P
open Go.RowKit Go.Proofs.YtkpkfallgjdkmaaGreatDoorW.PrintWords Go.Proofs.YtkpkfallgjdkmaaGreatDoorW.PrintLast Go.Proofs.YtkpkfallgjdkmaaGreatDoorW.PrintMore
attribute [local go_sem] max2_int min2_int max_two min_two max_three min_three max_four min_four
set_option linter.unusedVariables false
set_option linter.unusedSimpArgs false
def spec_l3Target.l0 : Nat → ByteArray → Bool → List ByteArray → Int → Int → Option (Bool)
 | 0, _, _, _, _, _ => none
 | k + 1, x0, x4, x12, x13, x14 => if x14 < x13 then (if 0 ≤ x14 then (if x14 < (x12.length : Int) then (if x4 = true then (spec_l3Target.l0 k x0 ((rdOf ByteArray.empty x12 x14).toList != ([42] : List UInt8)) x12 x13 (wrap64 (x14 + 1))) else (spec_l3Target.l0 k x0 false x12 x13 (wrap64 (x14 + 1)))) else (none)) else (none)) else (if x4 = true then (some (x0.toList != ([] : List UInt8))) else (some false))
def spec_l3Target.f (k : Nat) (a0 : ByteArray) : Option (Bool) := (spec_l1Labels.f k a0).bind fun bt127 => (spec_l3Target.l0 k a0 bt127.2 bt127.1 (bt127.1.length : Int) 0)
theorem spec_l3Target.mono_l : ∀ k, (∀ y0 y1 y2 y3 y4, LeO (spec_l3Target.l0 k y0 y1 y2 y3 y4) (spec_l3Target.l0 (k + 1) y0 y1 y2 y3 y4))
 | 0 => fun _ _ _ _ _ r h => by simp [spec_l3Target.l0] at h
 | k + 1 => by
  have ih0 := spec_l3Target.mono_l k
  · intro y0 y1 y2 y3 y4
    unfold spec_l3Target.l0
    repeat' first
    | (with_reducible exact ih0 _ _ _ _ _)
    | (with_reducible exact spec_l1Labels.mono _ _)
    | (with_reducible exact LeO.refl _)
    | (with_reducible exact LeO.none _)
    | (with_reducible refine LeO.ite ?_ ?_)
    | (with_reducible refine LeO.bind ?_ (fun _ => ?_))
    | exact ih0 _ _ _ _ _
    | exact spec_l1Labels.mono _ _
    | exact LeO.none _
    | refine LeO.ite ?_ ?_
    | refine LeO.bind ?_ (fun _ => ?_)
theorem spec_l3Target.mono : ∀ a0 k, LeO (spec_l3Target.f k a0) (spec_l3Target.f (k + 1) a0) := by
 intro a0 k
 have ih0 := spec_l3Target.mono_l k
 unfold spec_l3Target.f
 repeat' first
  | (with_reducible exact ih0 _ _ _ _ _)
  | (with_reducible exact spec_l1Labels.mono _ _)
  | (with_reducible exact LeO.refl _)
  | (with_reducible exact LeO.none _)
  | (with_reducible refine LeO.ite ?_ ?_)
  | (with_reducible refine LeO.bind ?_ (fun _ => ?_))
  | exact ih0 _ _ _ _ _
  | exact spec_l1Labels.mono _ _
  | exact LeO.none _
  | refine LeO.ite ?_ ?_
  | refine LeO.bind ?_ (fun _ => ?_)
def impl_recordText.f (a0_0 : ByteArray) (a0_1 : Int) (a0_2 : Int) (a0_3 : ByteArray) : Option (ByteArray) := (impl_told.f a0_0).bind fun t820 => (if t820.size + 1 ≤ 9223372036854775807 then ((strconv_Itoa.f a0_2).bind fun t821 => (if (t820 ++ (⟨#[32]⟩ : ByteArray)).size + t821.size ≤ 9223372036854775807 then (if ((t820 ++ (⟨#[32]⟩ : ByteArray)) ++ t821).size + 1 ≤ 9223372036854775807 then ((strconv_Itoa.f a0_1).bind fun t822 => (if (((t820 ++ (⟨#[32]⟩ : ByteArray)) ++ t821) ++ (⟨#[32]⟩ : ByteArray)).size + t822.size ≤ 9223372036854775807 then (if ((((t820 ++ (⟨#[32]⟩ : ByteArray)) ++ t821) ++ (⟨#[32]⟩ : ByteArray)) ++ t822).size + 1 ≤ 9223372036854775807 then (if (((((t820 ++ (⟨#[32]⟩ : ByteArray)) ++ t821) ++ (⟨#[32]⟩ : ByteArray)) ++ t822) ++ (⟨#[32]⟩ : ByteArray)).size + a0_3.size ≤ 9223372036854775807 then (some ((((((t820 ++ (⟨#[32]⟩ : ByteArray)) ++ t821) ++ (⟨#[32]⟩ : ByteArray)) ++ t822) ++ (⟨#[32]⟩ : ByteArray)) ++ a0_3)) else (none)) else (none)) else (none))) else (none)) else (none))) else (none))
def impl_recordText.T1 : Bool × List (List Nat × List Nat) := (true, [([], []), ([0], [0]), ([1], [1]), ([2], [2]), ([], []), ([4], [4]), ([5, 2], [5]), ([3, 6], [3, 6]), ([7], [7]), ([], []), ([9], [9]), ([10, 6], [10]), ([8, 11], [8, 11]), ([12], [12]), ([], []), ([14], [14]), ([13, 15], [13, 15]), ([16, 11, 0, 1, 2, 3, 4, 5, 6, 7, 8, 9, 10, 11, 12, 13, 14, 15, 16], [16])])
def impl_recordText.B1 : List Nat := [0, 1, 3, 7, 0, 16, 55, 127, 255, 0, 512, 1655, 4095, 8191, 0, 16384, 65535, 131071]
def spec_NewZone.f (k : Nat) (a0 : ByteArray) : Option (ByteArray × Int × (List (S72)) × Bool) := (spec_l6Apex.f k a0).bind fun t493 => (if t493 = true then (some (a0, 0, (([(⟨a0, 6, 60, (⟨#[48]⟩ : ByteArray)⟩ : S72)] : List (S72))), true)) else (some ((⟨#[]⟩ : ByteArray), 0, ([] : List (S72)), false)))
set_option maxHeartbeats 8000000 in
set_option maxRecDepth 100000 in
theorem spec_NewZone.calls (k : Nat) (a0 : ByteArray) (r1 : ByteArray) (r2 : Int) (r3 : List (S72)) (r4 : Bool) (w : World) (h : spec_NewZone.f k a0 = some (r1, r2, r3, r4)) :
 Calls Tryz.prog 25 #[.string a0] w fun e w' => ∃ v2_ : Value, e = .returned (.tuple #[.agg #[.string r1, .int .i64 r2, v2_], .bool r4]) ∧ Kd.R k72 72 w' w.heap.size (fun _ => True) v2_ r3 ∧ Below w.heap.size w w' := by
 have hu42 := Tryz.underlying42
 have hu72 := Tryz.underlying72
 have HB := a0_ (Below.refl w.heap.size w)
 have H : ((spec_l6Apex.f k a0).bind fun t493 => (if t493 = true then (some (a0, 0, (([(⟨a0, 6, 60, (⟨#[48]⟩ : ByteArray)⟩ : S72)] : List (S72))), true)) else (some ((⟨#[]⟩ : ByteArray), 0, ([] : List (S72)), false)))) = some (r1, r2, r3, r4) := h
 clear h
 obtain ⟨t493, A20, H⟩ := Option.bind_eq_some_iff.mp H
 have A2 := a0_ A20
 clear A20
 by_cases c3 : t493 = true
 case neg =>
  replace c3 := Bool.eq_false_iff.mpr c3
  subst c3
  rw [if_neg (show ¬ (false = true) by decide)] at H
  simp only [Option.some.injEq, Prod.mk.injEq] at H
  obtain ⟨rfl, rfl, rfl, rfl⟩ := H
  go_enter Tryz.func25, Tryz.ntmps25
  go_wp2_with (first | ((with_reducible refine gate_dst (N := 2) rfl ?_); refine boxS_ 2 #[.string (⟨#[]⟩ : ByteArray), .int .i64 0, .slice none 0 0] 42 (fun gb492 hg w10 hbox hb => ?_); have n0_ := a0_ (below_step bq0_ hb); have n1_ := a0_ (hbox); have n2_ := a0_ (gw_ hg : w.heap.size ≤ gb492); have n3_ := n2_; clear HB; have HB := n0_; have BK492 := n1_; have GW492 := n2_; have GE492 := n3_; clear n0_ n1_ n2_ n3_; clear hb hbox hg) | ((with_reducible refine gate_callee (f := 55) rfl ?_); refine goesL_ (some 5) rfl rfl Tryz.func55 (by kernel_rfl) rfl #[.string a0] rfl argsS_ ?_; (with_reducible refine (spec_l6Apex.calls k a0 false _ A2.out).mono ?_); rintro e w11 ⟨rfl, hb⟩; refine ⟨_, rfl, ?_⟩; replace BK492 := a0_ (bkB_ BK492 hb); replace HB := a0_ (below_step bq1_ hb); (try clear hb); (try clear hb2); (try clear hk); (try clear hi); obtain ⟨z12_0, z12_1, z12_2, q12_0, q12_1, q12_2⟩ := bk3_ BK492.out))
  refine bodyPost_ret (results_ct rfl _ _ gb492 42 #[.string (⟨#[]⟩ : ByteArray), .int .i64 0, .slice none 0 0] (0, 0) _ rfl (put3_ BK492.out) Tryz.underlying42 rfl (by kernel_rfl)) rfl ?_
  exact ⟨_, rr_, by first | exact Kd.R_nil _ _ _ _ _ | exact Kd.N_nil _ _ _ _ _ | exact Kd.V_nil _ _ _ _ _ | exact Kd.Q_nil _ _ _ _ _ | exact Kd.S_nil _ _ _ _ _, bq1_⟩
 subst c3
 rw [if_pos rfl] at H
 obtain ⟨y494, hy494⟩ : ∃ y_ : List (S72), y_ = (([(⟨a0, 6, 60, (⟨#[48]⟩ : ByteArray)⟩ : S72)] : List (S72))) := ⟨_, rfl⟩
 replace H : (some (a0, 0, y494, true)) = some (r1, r2, r3, r4) := by first | (rw [hy494]; with_reducible exact H) | (have H2_ := (Option.bind_some _ _).symm.trans H; rw [hy494]; with_reducible exact H2_) | (have H2_ := (Option.bind_some _ _).symm.trans H; with_reducible exact H2_) | with_reducible exact H | (rw [hy494]; exact H) | exact H
 have Ny494 := a0_ hy494
 clear hy494
 simp only [Option.some.injEq, Prod.mk.injEq] at H
 obtain ⟨rfl, rfl, rfl, rfl⟩ := H
 go_enter Tryz.func25, Tryz.ntmps25
 go_wp2_with (first | ((with_reducible refine gate_dst (N := 2) rfl ?_); refine boxS_ 2 #[.string (⟨#[]⟩ : ByteArray), .int .i64 0, .slice none 0 0] 42 (fun gb492 hg w4 hbox hb => ?_); have n0_ := a0_ (below_step bq0_ hb); have n1_ := a0_ (hbox); have n2_ := a0_ (gw_ hg : w.heap.size ≤ gb492); have n3_ := n2_; clear HB; have HB := n0_; have BK492 := n1_; have GW492 := n2_; have GE492 := n3_; clear n0_ n1_ n2_ n3_; clear hb hbox hg) | ((with_reducible refine gate_callee (f := 55) rfl ?_); refine goesL_ (some 5) rfl rfl Tryz.func55 (by kernel_rfl) rfl #[.string a0] rfl argsS_ ?_; (with_reducible refine (spec_l6Apex.calls k a0 true _ A2.out).mono ?_); rintro e w5 ⟨rfl, hb⟩; refine ⟨_, rfl, ?_⟩; replace BK492 := a0_ (bkB_ BK492 hb); replace HB := a0_ (below_step bq1_ hb); (try clear hb); (try clear hb2); (try clear hk); (try clear hi)) | ((with_reducible refine gate_dst (N := 11) rfl ?_); refine Kd.R_lit k72 _ 72 ?hg (N := 11) ?hd (xs := ([(⟨a0, 6, 60, (⟨#[48]⟩ : ByteArray)⟩ : S72)] : List (S72))) (inner := [.string a0, .int .i64 6, .int .i64 60, .string (⟨#[48]⟩ : ByteArray)]) (ok := fun _ => True) (okp := fun _ => True) ?hr ?hp (fun _ hk => hk) trivial (Below.refl _ _) (Nat.le_refl _) (by simp) ?_; (case hd => rfl); (case hg => rfl); (case hr => first | (go_simp; done) | (go_simp; rfl)); (case hp => exact (Reps.c4 (show Kd.M k72 _ _ _ (⟨a0, 6, 60, (⟨#[48]⟩ : ByteArray)⟩ : S72) [.string a0, .int .i64 6, .int .i64 60, .string (⟨#[48]⟩ : ByteArray)] from (k72_mkM _ _ _ (⟨a0, 6, 60, (⟨#[48]⟩ : ByteArray)⟩ : S72) )) (Reps.none _ _))); intro v495 w6 ho7 hb hg_ hnew_; clear hg_ hnew_; (first | rw [← Ny494.out] at ho7 | (simp only [Int.reduceToNat] at ho7; rw [← Ny494.out] at ho7)); have HO496 := a0_ (Kd.R_lower ho7 (below_size bq1_)); replace BK492 := a0_ (bkB_ BK492 hb); replace HB := a0_ (below_step bq1_ hb); clear hb ho7; obtain ⟨Ao8, co8, eo8⟩ := Kd.R_slice HO496.out; subst eo8; obtain ⟨z9_0, z9_1, z9_2, q9_0, q9_1, q9_2⟩ := bk3_ BK492.out))
 refine bodyPost_ret (results_ct rfl _ _ gb492 42 #[.string a0, .int .i64 0, .slice Ao8 y494.length co8] (0, 0) _ rfl (put3_ BK492.out) Tryz.underlying42 rfl (by kernel_rfl)) rfl ?_
 exact ⟨_, rr_, by (with_reducible repeat (first | apply Kd.R_alloc | apply Kd.R_drewN | apply Kd.R_drew)); exact Kd.R_mono (Kd.R_far (p := ⟨gb492, 2, none⟩) (Kd.R_far (p := ⟨gb492, 1, none⟩) (Kd.R_far (p := ⟨gb492, 0, none⟩) (Kd.R_types HO496.out BK492.out (by decide)) (fun _ hk => hk.2) (.string a0)) (fun _ hk => hk.2) (.int .i64 0)) (fun _ hk => hk.2) (.slice Ao8 y494.length co8)) (fun _ hk => trivial), bq1_⟩
end Go.Proofs.YtkpkfallgjdkmaaGreatDoor.P
namespace Go.Proofs.YtkpkfallgjdkmaaGreatDoor.Pure
open Go.RowKit Go.Proofs.YtkpkfallgjdkmaaGreatDoor.P Go.Proofs.YtkpkfallgjdkmaaGreatDoorW.PrintWords Go.Proofs.YtkpkfallgjdkmaaGreatDoorW.PrintLast
set_option linter.unusedVariables false
set_option linter.unusedSimpArgs false
theorem w64n {n : Nat} (h : n < 4611686018427387904) : wrap64 ((n : Int) + 1) = ((n + 1 : Nat) : Int) := by unfold wrap64; omega
theorem bt_list (s : ByteArray) (i : Nat) (h : i < s.data.toList.length) : bt s (i : Int) = ((s.data.toList[i]'h).toNat : Int) := by
 unfold bt
 have h2 : (i : Int).toNat < s.size := by rw [size_len]; omega
 rw [dif_pos h2]
 rfl
theorem ext_mkB (s : ByteArray) (a b : Nat) : s.extract a b = mkB ((s.data.toList.drop a).take (b - a)) := by
 apply ext_data
 rw [mkB_data]
 simp [ByteArray.data_extract]
theorem ext_end (s : ByteArray) (a : Nat) : s.extract a s.size = mkB (s.data.toList.drop a) := by
 rw [ext_mkB, List.take_of_length_le (by rw [List.length_drop, size_len]; omega)]
theorem split_loop (s : ByteArray) (hs : s.size < 1099511627776) : ∀ (m i a : Nat) (acc : List ByteArray), i + m = s.size → a ≤ i → (∀ x ∈ (s.data.toList.drop a).take (i - a), x ≠ 46) → acc.length ≤ a →
 spec_l1Split.l0 (m + 1) s 46 acc (a : Int) (i : Int) = some (acc ++ (splitL 46 (s.data.toList.drop a)).map mkB)
 | 0, i, a, acc, him, hai, hx, hacc => by
  unfold spec_l1Split.l0
  rw [if_neg (by omega), if_pos (by omega), if_pos (by omega), if_pos (by omega)]
  rw [List.take_of_length_le (by rw [List.length_drop, ← size_len]; omega)] at hx
  rw [splitL_none 46 _ hx, Int.toNat_natCast, ext_end]
  rfl
 | m + 1, i, a, acc, him, hai, hx, hacc => by
  have hi : i < s.data.toList.length := by rw [← size_len]; omega
  unfold spec_l1Split.l0
  rw [if_pos (by omega), if_pos (by omega), bt_list s i hi, w64n (by omega)]
  have hd : s.data.toList.drop a = (s.data.toList.drop a).take (i - a) ++ s.data.toList[i] :: s.data.toList.drop (i + 1) := by
   conv => lhs; rw [← List.take_append_drop (i - a) (s.data.toList.drop a)]
   congr 1
   rw [List.drop_drop, show a + (i - a) = i by omega, List.drop_eq_getElem_cons hi]
  by_cases h : s.data.toList[i] = 46
  · rw [if_pos (by rw [h]; rfl), if_pos (by omega), if_pos (by omega), if_pos (by omega), if_pos (by omega), Int.toNat_natCast, Int.toNat_natCast, ext_mkB]
    rw [split_loop s hs m (i + 1) (i + 1) _ (by omega) (by omega) (by simp) (by simp; omega)]
    conv => rhs; rw [hd, h, splitL_hit 46 _ _ hx]
    simp
  · rw [if_neg (by intro e; apply h; apply UInt8.toNat_inj.1; simpa using Int.ofNat.inj e)]
    refine split_loop s hs m (i + 1) a acc (by omega) (by omega) ?_ hacc
    intro x hm
    rw [show i + 1 - a = (i - a) + 1 by omega, List.take_add_one] at hm
    rcases List.mem_append.1 hm with hm | hm
    · exact hx x hm
    · rw [List.getElem?_drop, show a + (i - a) = i by omega, List.getElem?_eq_getElem hi] at hm
      obtain rfl : x = s.data.toList[i] := by simpa using hm
      exact h
theorem split_ev (s : ByteArray) (hs : s.size < 1099511627776) : Ev (fun k => spec_l1Split.f k s 46) ((splitL 46 s.data.toList).map mkB) := by
 refine Ev.of (fun k => spec_l1Split.mono _ _ _) (k := s.size + 1) ?_
 unfold spec_l1Split.f
 have := split_loop s hs s.size 0 0 [] (by omega) (by omega) (by simp) (by simp)
 simpa using this
theorem within_spec (n a b : Int) : spec_l1In.f n a b = some (decide (a ≤ n ∧ n ≤ b)) := by
 unfold spec_l1In.f
 by_cases h : n ≥ a
 · rw [if_pos h]; congr 1; rw [decide_eq_decide]; omega
 · rw [if_neg h]; congr 1; rw [eq_comm, decide_eq_false_iff_not]; omega
theorem label_loop (s : ByteArray) (hs : s.size < 1099511627776) : ∀ (m i : Nat), i + m = s.size →
 spec_l1Label.l0 (m + 1) s (i : Int) = some ((s.data.toList.drop i).all labelByte && decide (1 ≤ s.data.toList.length ∧ s.data.toList.length ≤ 20))
 | 0, i, him => by
  unfold spec_l1Label.l0
  rw [if_neg (by omega), within_spec, List.drop_of_length_le (by rw [← size_len]; omega)]
  simp only [Option.bind_some, List.all_nil, Bool.true_and]
  congr 1
  rw [decide_eq_decide, ← size_len]
  omega
 | m + 1, i, him => by
  have hi : i < s.data.toList.length := by rw [← size_len]; omega
  have ih := label_loop s hs m (i + 1) (by omega)
  unfold spec_l1Label.l0
  rw [if_pos (by omega), if_pos (by omega), w64n (by omega), ih, bt_list s i hi, List.drop_eq_getElem_cons hi, List.all_cons]
  generalize (List.drop (i + 1) s.data.toList).all labelByte = rest
  generalize decide (1 ≤ s.data.toList.length ∧ s.data.toList.length ≤ 20) = len
  generalize s.data.toList[i] = b
  have hb : labelByte b = decide ((97 ≤ (b.toNat : Int) ∧ (b.toNat : Int) ≤ 122) ∨ (48 ≤ (b.toNat : Int) ∧ (b.toNat : Int) ≤ 57) ∨ (b.toNat : Int) = 45 ∨ (b.toNat : Int) = 95) := by
   unfold labelByte
   rw [Bool.eq_iff_iff]
   have h45 : b = 45 ↔ (b.toNat : Int) = 45 := by rw [← UInt8.toNat_inj]; exact ⟨fun h => by rw [h]; rfl, fun h => Int.ofNat.inj h⟩
   have h95 : b = 95 ↔ (b.toNat : Int) = 95 := by rw [← UInt8.toNat_inj]; exact ⟨fun h => by rw [h]; rfl, fun h => Int.ofNat.inj h⟩
   simp only [Bool.or_eq_true, decide_eq_true_eq, beq_iff_eq, h45, h95]
   omega
  rw [hb]
  generalize (b.toNat : Int) = v
  by_cases hv : (97 ≤ v ∧ v ≤ 122) ∨ (48 ≤ v ∧ v ≤ 57) ∨ v = 45 ∨ v = 95
  · rw [decide_eq_true hv, Bool.true_and]
    repeat' split
    all_goals first | rfl | omega
  · rw [decide_eq_false hv, Bool.false_and, Bool.false_and]
    repeat' split
    all_goals first | rfl | omega
theorem label_ev (s : ByteArray) (hs : s.size < 1099511627776) : Ev (fun k => spec_l1Label.f k s) (isLabelL s.data.toList) := by
 refine Ev.of (fun k => spec_l1Label.mono _ _) (k := s.size + 1) ?_
 unfold spec_l1Label.f isLabelL
 rw [Lib.toList_data]
 by_cases h : s.data.toList = [42]
 · rw [if_pos h, h]; rfl
 · rw [if_neg h, show (s.data.toList == [42]) = false from beq_eq_false_iff_ne.mpr h, Bool.false_or, Bool.and_comm]
   have := label_loop s hs s.size 0 (by omega)
   simpa using this
/-- The result of the reference's labels' loop. -/
def labsR (s : ByteArray) (parts : List ByteArray) (i : Nat) : List ByteArray × Bool :=
 if (parts.drop i).all (fun p => isLabelL p.data.toList) then (if s.size ≤ 60 then (parts, decide (parts.length ≤ 8)) else (parts, false)) else ([], false)
theorem labels_loop (s : ByteArray) (parts : List ByteArray) (hp : ∀ p ∈ parts, p.size < 1099511627776) (hl : parts.length < 1099511627776) : ∀ (m i : Nat), i + m = parts.length →
 Ev (fun k => spec_l1Labels.l0 k s parts parts (parts.length : Int) (i : Int)) (labsR s parts i)
 | 0, i, him => by
  refine Ev.step (f := fun k => some (labsR s parts i)) (fun k => ?_) (Ev.now _)
  show spec_l1Labels.l0 (k + 1) s parts parts (parts.length : Int) (i : Int) = _
  unfold spec_l1Labels.l0 labsR
  rw [if_neg (by omega), List.drop_of_length_le (by omega)]
  simp only [List.all_nil, if_true]
  by_cases h : s.size ≤ 60
  · rw [if_pos (by omega), if_pos h]
    congr 2
    rw [decide_eq_decide]; omega
  · rw [if_neg (by omega), if_neg h]
 | m + 1, i, him => by
  have hi : i < parts.length := by omega
  have ih := labels_loop s parts hp hl m (i + 1) (by omega)
  have hrd : rdOf ByteArray.empty parts (i : Int) = parts[i] := by
   unfold rdOf
   rw [Int.toNat_natCast, List.getD_eq_getElem?_getD, List.getElem?_eq_getElem hi]
   rfl
  refine Ev.step (f := fun k => (spec_l1Label.f k parts[i]).bind fun t => if t = true then spec_l1Labels.l0 k s parts parts (parts.length : Int) ((i + 1 : Nat) : Int) else some ([], false)) (fun k => ?_) ?_
  · show spec_l1Labels.l0 (k + 1) s parts parts (parts.length : Int) (i : Int) = _
    conv => lhs; unfold spec_l1Labels.l0
    rw [if_pos (by omega), if_pos (by omega), if_pos (by omega), hrd, w64n (by omega)]
  · refine Ev.bind (label_ev _ (hp _ (List.getElem_mem hi))) ?_
    have hd : labsR s parts i = if isLabelL parts[i].data.toList = true then labsR s parts (i + 1) else ([], false) := by
     unfold labsR
     rw [List.drop_eq_getElem_cons hi, List.all_cons]
     cases isLabelL parts[i].data.toList <;> simp
    rw [hd]
    by_cases h : isLabelL parts[i].data.toList = true
    · simp only [if_pos h]
      exact ih
    · simp only [if_neg h]
      exact Ev.now _
theorem splitL_len (c : UInt8) (l : List UInt8) : (splitL c l).length ≤ l.length + 1 := by
 induction l with
 | nil => simp [splitL]
 | cons x xs ih =>
  unfold splitL
  split
  · simp; omega
  · split
    · simp
    · rename_i e
      rw [e] at ih
      simp at ih ⊢
      omega
theorem splitL_part (c : UInt8) (l : List UInt8) : ∀ p ∈ splitL c l, p.length ≤ l.length := by
 induction l with
 | nil => simp [splitL]
 | cons x xs ih =>
  unfold splitL
  split
  · intro p hp
    rcases List.mem_cons.1 hp with rfl | hp
    · simp
    · have := ih p hp; simp; omega
  · split
    · simp
    · rename_i e
      rw [e] at ih
      intro p hp
      rcases List.mem_cons.1 hp with rfl | hp
      · have := ih _ List.mem_cons_self; simp; omega
      · have := ih p (List.mem_cons_of_mem _ hp); simp; omega
/-- What the reference's labels are. -/
theorem labels_ev (s : ByteArray) (hs : s.size < 549755813888) : ∃ r, Ev (fun k => spec_l1Labels.f k s) r ∧ r.2 = goodL s.data.toList ∧ (r.2 = true → r.1 = (labelsL s.data.toList).map mkB) := by
 by_cases h : s.data.toList = []
 · refine ⟨([], true), ?_, ?_, ?_⟩
   · refine Ev.congr (fun k => ?_) (Ev.now _)
     unfold spec_l1Labels.f
     rw [if_pos (by rw [Lib.toList_data]; exact h)]
   · rw [h]; decide
   · rw [h]; intro _; rfl
 · refine ⟨labsR s ((splitL 46 s.data.toList).map mkB) 0, ?_, ?_, ?_⟩
   · refine Ev.congr (f := fun k => (spec_l1Split.f k s 46).bind fun t => spec_l1Labels.l0 k s t t (t.length : Int) 0) (fun k => ?_) (Ev.bind (split_ev s (by omega)) ?_)
     · show spec_l1Labels.f k s = _
       unfold spec_l1Labels.f
       rw [if_neg (by rw [Lib.toList_data]; exact h)]
     · have hlen : ((splitL 46 s.data.toList).map mkB).length ≤ s.size + 1 := by rw [List.length_map, size_len]; exact splitL_len _ _
       refine labels_loop s _ ?_ (by omega) _ 0 (Nat.zero_add _)
       intro p hp
       obtain ⟨q, hq, rfl⟩ := List.mem_map.1 hp
       have := splitL_part 46 _ q hq
       rw [mkB_size]
       rw [← size_len] at this
       omega
   all_goals
    unfold labsR
    try unfold goodL
    rw [show labelsL s.data.toList = splitL 46 s.data.toList by unfold labelsL; rw [if_neg h]]
    simp only [List.drop_zero, List.all_map, Function.comp_def, mkB_data, List.length_map, ← size_len]
    by_cases h1 : (splitL 46 s.data.toList).all isLabelL = true
    · simp only [show (splitL 46 s.data.toList).all (fun p => isLabelL p) = true from h1]
      by_cases h2 : s.size ≤ 60
      · simp [h1, h2]
      · simp [h1, h2]
    · simp only [show (splitL 46 s.data.toList).all (fun p => isLabelL p) = false from Bool.eq_false_iff.mpr h1]
      simp [h1]
theorem good_ev (s : ByteArray) (hs : s.size < 549755813888) : ∃ r, Ev (fun k => spec_l1Labels.f k s) r ∧ r.2 = goodL s.data.toList := by
 obtain ⟨r, h1, h2, _⟩ := labels_ev s hs
 exact ⟨r, h1, h2⟩
end Go.Proofs.YtkpkfallgjdkmaaGreatDoor.Pure
namespace Go.Proofs.YtkpkfallgjdkmaaGreatDoor.P
open Go.RowKit Go.Proofs.YtkpkfallgjdkmaaGreatDoorW.PrintWords Go.Proofs.YtkpkfallgjdkmaaGreatDoorW.PrintLast Go.Proofs.YtkpkfallgjdkmaaGreatDoorW.PrintMore
attribute [local go_sem] max2_int min2_int max_two min_two max_three min_three max_four min_four
set_option linter.unusedVariables false
set_option linter.unusedSimpArgs false
def impl_isTarget.f (a0 : ByteArray) : Option (Bool) := if a0.toList = ([] : List UInt8) then (some false) else ((impl_GoodName.f a0).bind fun t536 => (if t536 = true then ((strings_Contains.f a0 (⟨#[42]⟩ : ByteArray)).bind fun t537 => (some (!t537))) else (some false)))
set_option maxHeartbeats 8000000 in
set_option maxRecDepth 100000 in
theorem impl_isTarget.calls (a0 : ByteArray) (r : Bool) (w : World) (h : impl_isTarget.f a0 = some r) :
 Calls Tryz.prog 144 #[.string a0] w fun e w' => e = .returned (.bool r) ∧ Below w.heap.size w w' := by
 have HB := a0_ (Below.refl w.heap.size w)
 have H : (if a0.toList = ([] : List UInt8) then (some false) else ((impl_GoodName.f a0).bind fun t536 => (if t536 = true then ((strings_Contains.f a0 (⟨#[42]⟩ : ByteArray)).bind fun t537 => (some (!t537))) else (some false)))) = some r := h
 clear h
 by_cases c2 : a0.toList = ([] : List UInt8)
 case pos =>
  rw [if_pos c2] at H
  have c2b0 := beq_iff_eq.mpr c2
  have c2b1 := bne_eq_false_iff_eq.mpr c2
  clear c2
  obtain rfl := Option.some.inj H
  go_enter Tryz.func144, Tryz.ntmps144
  go_wp2
  go_ret
  exact ⟨rr_, bq0_⟩
 rw [if_neg c2] at H
 have c2b0 := beq_eq_false_iff_ne.mpr c2
 have c2b1 := bne_iff_ne.mpr c2
 obtain ⟨t536, A30, H⟩ := Option.bind_eq_some_iff.mp H
 have A3 := a0_ A30
 clear A30
 by_cases c4 : t536 = true
 case neg =>
  replace c4 := Bool.eq_false_iff.mpr c4
  subst c4
  rw [if_neg (show ¬ (false = true) by decide)] at H
  obtain rfl := Option.some.inj H
  go_enter Tryz.func144, Tryz.ntmps144
  go_wp2_with (first | (go_at_call 72; (with_reducible refine (impl_GoodName.calls a0 false _ A3.out).mono ?_); rintro e w7 ⟨rfl, hb⟩; replace HB := a0_ (below_step bq0_ hb); (try clear hb); (try clear hb2); (try clear hk); (try clear hi)))
  go_ret
  exact ⟨rr_, bq0_⟩
 subst c4
 rw [if_pos rfl] at H
 obtain ⟨t537, A50, H⟩ := Option.bind_eq_some_iff.mp H
 have A5 := a0_ A50
 clear A50
 obtain rfl := Option.some.inj H
 go_enter Tryz.func144, Tryz.ntmps144
 go_wp2_with (first | (go_at_call 72; (with_reducible refine (impl_GoodName.calls a0 true _ A3.out).mono ?_); rintro e w6 ⟨rfl, hb⟩; replace HB := a0_ (below_step bq0_ hb); (try clear hb); (try clear hb2); (try clear hk); (try clear hi)) | (go_at_call 113; (with_reducible refine (strings_Contains.calls a0 (⟨#[42]⟩ : ByteArray) t537 _ A5.out).mono ?_); rintro e w' ⟨rfl, ⟨nd, rfl⟩⟩))
 go_ret
 exact ⟨rr_, bq0_⟩
mutual
def spec_l3Bytes.l0 : Nat → ByteArray → List ByteArray → List ByteArray → Int → Int → Option (ByteArray × Bool)
 | 0, _, _, _, _, _ => none
 | k + 1, x6, x7, x19, x20, x21 => if x21 < x20 then (if 0 ≤ x21 then (if x21 < (x19.length : Int) then ((spec_l1Int.f k (rdOf ByteArray.empty x19 x21)).bind fun t144 => ((spec_l1In.f t144 0 255).bind fun t145 => (if t145 = true then ((spec_l3Number.f k t144 1).bind fun t146 => (if x6.size + t146.size ≤ 9223372036854775807 then (spec_l3Bytes.l0 k (x6 ++ t146) x7 x19 x20 (wrap64 (x21 + 1))) else (none))) else (some ((⟨#[]⟩ : ByteArray), false))))) else (none)) else (none)) else (some (x6, ((x7.length : Int) == 4)))
def spec_l3Bytes.j1 : Nat → ByteArray → Int → Bool → Option (ByteArray × Bool)
 | 0, _, _, _ => none
 | k + 1, x1, x14, x39 => if x39 = true then ((spec_l3Target.f k x1).bind fun t147 => (if t147 = true then ((spec_l2Bytes.f k x1).bind fun t148 => (some (t148, true))) else (some ((⟨#[]⟩ : ByteArray), false)))) else (if x14 = 6 then ((spec_l1Int.f k x1).bind fun t149 => ((spec_l3Number.f k t149 4).bind fun t150 => ((spec_l1In.f t149 0 4294967295).bind fun t151 => (some (t150, t151))))) else (if x14 = 15 then ((spec_l1Split.f k x1 32).bind fun t152 => (if (t152.length : Int) = 2 then (if 0 < (t152.length : Int) then ((spec_l1Int.f k (rdOf ByteArray.empty t152 0)).bind fun t156 => ((spec_l1In.f t156 0 65535).bind fun t157 => (if t157 = true then (if 1 < (t152.length : Int) then ((spec_l3Target.f k (rdOf ByteArray.empty t152 1)).bind fun t159 => (spec_l3Bytes.j2 k t152 (!t159))) else (none)) else (spec_l3Bytes.j2 k t152 true)))) else (none)) else (spec_l3Bytes.j2 k t152 true))) else (if x14 = 16 then (spec_l3Bytes.l1 k x1 0) else (some ((⟨#[]⟩ : ByteArray), false)))))
def spec_l3Bytes.j2 : Nat → List ByteArray → Bool → Option (ByteArray × Bool)
 | 0, _, _ => none
 | k + 1, x12, x76 => if x76 = true then (some ((⟨#[]⟩ : ByteArray), false)) else (if 0 < (x12.length : Int) then ((spec_l1Int.f k (rdOf ByteArray.empty x12 0)).bind fun t161 => ((spec_l3Number.f k t161 2).bind fun t162 => (if 1 < (x12.length : Int) then ((spec_l2Bytes.f k (rdOf ByteArray.empty x12 1)).bind fun t164 => (if t162.size + t164.size ≤ 9223372036854775807 then (some (t162 ++ t164, true)) else (none))) else (none)))) else (none))
def spec_l3Bytes.l1 : Nat → ByteArray → Int → Option (ByteArray × Bool)
 | 0, _, _ => none
 | k + 1, x1, x13 => if x13 < (x1.size : Int) then (if 0 ≤ x13 then (if (bt x1 x13) < 32 then (some ((⟨#[]⟩ : ByteArray), false)) else (if (bt x1 x13) > 126 then (some ((⟨#[]⟩ : ByteArray), false)) else (spec_l3Bytes.l1 k x1 (wrap64 (x13 + 1))))) else (none)) else ((some (([((x1.size : Int)) % 256] : List Int) : List Int)).bind fun y165 => (if (strOfNums y165).size + x1.size ≤ 9223372036854775807 then (some ((strOfNums y165) ++ x1, decide ((x1.size : Int) ≤ 30))) else (none)))
end
def spec_l3Bytes.f (k : Nat) (a0 : Int) (a1 : ByteArray) : Option (ByteArray × Bool) := if a0 = 1 then ((spec_l1Split.f k a1 46).bind fun t140 => (spec_l3Bytes.l0 k (⟨#[]⟩ : ByteArray) t140 t140 (t140.length : Int) 0)) else (if a0 = 2 then (spec_l3Bytes.j1 k a1 a0 (a0 == 2)) else (spec_l3Bytes.j1 k a1 a0 (a0 == 5)))
theorem spec_l3Bytes.mono_l : ∀ k, (∀ y0 y1 y2 y3 y4, LeO (spec_l3Bytes.l0 k y0 y1 y2 y3 y4) (spec_l3Bytes.l0 (k + 1) y0 y1 y2 y3 y4)) ∧ (∀ y0 y1 y2, LeO (spec_l3Bytes.j1 k y0 y1 y2) (spec_l3Bytes.j1 (k + 1) y0 y1 y2)) ∧ (∀ y0 y1, LeO (spec_l3Bytes.j2 k y0 y1) (spec_l3Bytes.j2 (k + 1) y0 y1)) ∧ (∀ y0 y1, LeO (spec_l3Bytes.l1 k y0 y1) (spec_l3Bytes.l1 (k + 1) y0 y1))
 | 0 => ⟨fun _ _ _ _ _ r h => by simp [spec_l3Bytes.l0] at h, fun _ _ _ r h => by simp [spec_l3Bytes.j1] at h, fun _ _ r h => by simp [spec_l3Bytes.j2] at h, fun _ _ r h => by simp [spec_l3Bytes.l1] at h⟩
 | k + 1 => by
  obtain ⟨ih0, ih1, ih2, ih3⟩ := spec_l3Bytes.mono_l k
  refine ⟨?_, ?_, ?_, ?_⟩
  · intro y0 y1 y2 y3 y4
    unfold spec_l3Bytes.l0
    repeat' first
    | (with_reducible exact ih0 _ _ _ _ _)
    | (with_reducible exact ih1 _ _ _)
    | (with_reducible exact ih2 _ _)
    | (with_reducible exact ih3 _ _)
    | (with_reducible exact spec_l1Int.mono _ _)
    | (with_reducible exact spec_l1Split.mono _ _ _)
    | (with_reducible exact spec_l2Bytes.mono _ _)
    | (with_reducible exact spec_l3Number.mono _ _ _)
    | (with_reducible exact spec_l3Target.mono _ _)
    | (with_reducible exact LeO.refl _)
    | (with_reducible exact LeO.none _)
    | (with_reducible refine LeO.ite ?_ ?_)
    | (with_reducible refine LeO.bind ?_ (fun _ => ?_))
    | exact ih0 _ _ _ _ _
    | exact ih1 _ _ _
    | exact ih2 _ _
    | exact ih3 _ _
    | exact spec_l1Int.mono _ _
    | exact spec_l1Split.mono _ _ _
    | exact spec_l2Bytes.mono _ _
    | exact spec_l3Number.mono _ _ _
    | exact spec_l3Target.mono _ _
    | exact LeO.none _
    | refine LeO.ite ?_ ?_
    | refine LeO.bind ?_ (fun _ => ?_)
  · intro y0 y1 y2
    unfold spec_l3Bytes.j1
    repeat' first
    | (with_reducible exact ih0 _ _ _ _ _)
    | (with_reducible exact ih1 _ _ _)
    | (with_reducible exact ih2 _ _)
    | (with_reducible exact ih3 _ _)
    | (with_reducible exact spec_l1Int.mono _ _)
    | (with_reducible exact spec_l1Split.mono _ _ _)
    | (with_reducible exact spec_l2Bytes.mono _ _)
    | (with_reducible exact spec_l3Number.mono _ _ _)
    | (with_reducible exact spec_l3Target.mono _ _)
    | (with_reducible exact LeO.refl _)
    | (with_reducible exact LeO.none _)
    | (with_reducible refine LeO.ite ?_ ?_)
    | (with_reducible refine LeO.bind ?_ (fun _ => ?_))
    | exact ih0 _ _ _ _ _
    | exact ih1 _ _ _
    | exact ih2 _ _
    | exact ih3 _ _
    | exact spec_l1Int.mono _ _
    | exact spec_l1Split.mono _ _ _
    | exact spec_l2Bytes.mono _ _
    | exact spec_l3Number.mono _ _ _
    | exact spec_l3Target.mono _ _
    | exact LeO.none _
    | refine LeO.ite ?_ ?_
    | refine LeO.bind ?_ (fun _ => ?_)
  · intro y0 y1
    unfold spec_l3Bytes.j2
    repeat' first
    | (with_reducible exact ih0 _ _ _ _ _)
    | (with_reducible exact ih1 _ _ _)
    | (with_reducible exact ih2 _ _)
    | (with_reducible exact ih3 _ _)
    | (with_reducible exact spec_l1Int.mono _ _)
    | (with_reducible exact spec_l1Split.mono _ _ _)
    | (with_reducible exact spec_l2Bytes.mono _ _)
    | (with_reducible exact spec_l3Number.mono _ _ _)
    | (with_reducible exact spec_l3Target.mono _ _)
    | (with_reducible exact LeO.refl _)
    | (with_reducible exact LeO.none _)
    | (with_reducible refine LeO.ite ?_ ?_)
    | (with_reducible refine LeO.bind ?_ (fun _ => ?_))
    | exact ih0 _ _ _ _ _
    | exact ih1 _ _ _
    | exact ih2 _ _
    | exact ih3 _ _
    | exact spec_l1Int.mono _ _
    | exact spec_l1Split.mono _ _ _
    | exact spec_l2Bytes.mono _ _
    | exact spec_l3Number.mono _ _ _
    | exact spec_l3Target.mono _ _
    | exact LeO.none _
    | refine LeO.ite ?_ ?_
    | refine LeO.bind ?_ (fun _ => ?_)
  · intro y0 y1
    unfold spec_l3Bytes.l1
    repeat' first
    | (with_reducible exact ih0 _ _ _ _ _)
    | (with_reducible exact ih1 _ _ _)
    | (with_reducible exact ih2 _ _)
    | (with_reducible exact ih3 _ _)
    | (with_reducible exact spec_l1Int.mono _ _)
    | (with_reducible exact spec_l1Split.mono _ _ _)
    | (with_reducible exact spec_l2Bytes.mono _ _)
    | (with_reducible exact spec_l3Number.mono _ _ _)
    | (with_reducible exact spec_l3Target.mono _ _)
    | (with_reducible exact LeO.refl _)
    | (with_reducible exact LeO.none _)
    | (with_reducible refine LeO.ite ?_ ?_)
    | (with_reducible refine LeO.bind ?_ (fun _ => ?_))
    | exact ih0 _ _ _ _ _
    | exact ih1 _ _ _
    | exact ih2 _ _
    | exact ih3 _ _
    | exact spec_l1Int.mono _ _
    | exact spec_l1Split.mono _ _ _
    | exact spec_l2Bytes.mono _ _
    | exact spec_l3Number.mono _ _ _
    | exact spec_l3Target.mono _ _
    | exact LeO.none _
    | refine LeO.ite ?_ ?_
    | refine LeO.bind ?_ (fun _ => ?_)
theorem spec_l3Bytes.mono : ∀ a0 a1 k, LeO (spec_l3Bytes.f k a0 a1) (spec_l3Bytes.f (k + 1) a0 a1) := by
 intro a0 a1 k
 obtain ⟨ih0, ih1, ih2, ih3⟩ := spec_l3Bytes.mono_l k
 unfold spec_l3Bytes.f
 repeat' first
  | (with_reducible exact ih0 _ _ _ _ _)
  | (with_reducible exact ih1 _ _ _)
  | (with_reducible exact ih2 _ _)
  | (with_reducible exact ih3 _ _)
  | (with_reducible exact spec_l1Int.mono _ _)
  | (with_reducible exact spec_l1Split.mono _ _ _)
  | (with_reducible exact spec_l2Bytes.mono _ _)
  | (with_reducible exact spec_l3Number.mono _ _ _)
  | (with_reducible exact spec_l3Target.mono _ _)
  | (with_reducible exact LeO.refl _)
  | (with_reducible exact LeO.none _)
  | (with_reducible refine LeO.ite ?_ ?_)
  | (with_reducible refine LeO.bind ?_ (fun _ => ?_))
  | exact ih0 _ _ _ _ _
  | exact ih1 _ _ _
  | exact ih2 _ _
  | exact ih3 _ _
  | exact spec_l1Int.mono _ _
  | exact spec_l1Split.mono _ _ _
  | exact spec_l2Bytes.mono _ _
  | exact spec_l3Number.mono _ _ _
  | exact spec_l3Target.mono _ _
  | exact LeO.none _
  | refine LeO.ite ?_ ?_
  | refine LeO.bind ?_ (fun _ => ?_)
def spec_l3Bytes.T26 : Bool × List (List Nat × List Nat) := (true, [([], []), ([0], [0]), ([1], [1]), ([2], [2]), ([3, 3], [3]), ([], []), ([5], [5]), ([6], [6]), ([7, 4], [7]), ([4, 8], [4, 8]), ([9, 8, 0, 1, 2, 3, 4, 5, 6, 7, 8, 9], [9]), ([10, 0, 1, 2, 3, 4, 5, 6, 7, 8, 9, 10], [])])
def spec_l3Bytes.B26 : List Nat := [0, 1, 3, 7, 15, 0, 32, 96, 255, 511, 1023, 2047]
end Go.Proofs.YtkpkfallgjdkmaaGreatDoor.P
