/- FnRecords: part 20 of 29 of my texts for this claim, joined; the theorem stands in the last. Conditions: none beyond the statement's. -/
import Derived.Test.YtiegkjimpclmaaaGreatDoorMFnRecordsx16
namespace Go.Proofs.YtiegkjimpclmaaaGreatDoor.P
open Go.RowKit Go.Proofs.YtiegkjimpclmaaaGreatDoorW.PrintWords Go.Proofs.YtiegkjimpclmaaaGreatDoorW.PrintLast Go.Proofs.YtiegkjimpclmaaaGreatDoorW.PrintMore
attribute [local go_sem] max2_int min2_int max_two min_two max_three min_three max_four min_four
set_option linter.unusedVariables false
set_option linter.unusedSimpArgs false
mutual
def impl_ReadRecord.j0 : Nat → ByteArray → List ByteArray → Bool → Option (ByteArray × Int × Int × ByteArray × Bool)
 | 0, _, _, _ => none
 | k + 1, x0, x4, x15 => if x15 = true then (some ((⟨#[]⟩ : ByteArray), 0, 0, (⟨#[]⟩ : ByteArray), false)) else (if 0 < (x4.length : Int) then (if 3 < (x4.length : Int) then (if (rdOf ByteArray.empty x4 0).toList = ([46] : List UInt8) then (impl_ReadRecord.j1 k x0 x4 (⟨#[]⟩ : ByteArray) 0 0 (rdOf ByteArray.empty x4 3)) else (impl_ReadRecord.j1 k x0 x4 (rdOf ByteArray.empty x4 0) 0 0 (rdOf ByteArray.empty x4 3))) else (none)) else (none))
def impl_ReadRecord.j1 : Nat → ByteArray → List ByteArray → ByteArray → Int → Int → ByteArray → Option (ByteArray × Int × Int × ByteArray × Bool)
 | 0, _, _, _, _, _, _ => none
 | k + 1, x0, x4, x709000, x709001, x709002, x709003 => if 1 < (x4.length : Int) then ((strconv_Atoi.f (rdOf ByteArray.empty x4 1)).bind fun bt710 => (if 2 < (x4.length : Int) then ((strconv_Atoi.f (rdOf ByteArray.empty x4 2)).bind fun bt713 => ((impl_GoodRecord.f k x709000 bt713.1 bt710.1 x709003).bind fun t715 => (if t715 = true then ((impl_recordText.f x709000 bt713.1 bt710.1 x709003).bind fun t716 => (if t716.toList = x0.toList then (some (x709000, bt713.1, bt710.1, x709003, true)) else (some ((⟨#[]⟩ : ByteArray), 0, 0, (⟨#[]⟩ : ByteArray), false)))) else (some ((⟨#[]⟩ : ByteArray), 0, 0, (⟨#[]⟩ : ByteArray), false))))) else (none))) else (none)
end
def impl_ReadRecord.f (k : Nat) (a0 : ByteArray) : Option (ByteArray × Int × Int × ByteArray × Bool) := (strings_SplitN.f a0 (⟨#[32]⟩ : ByteArray) 4).bind fun t703 => (if (a0.size : Int) > 300 then (impl_ReadRecord.j0 k a0 t703 true) else (impl_ReadRecord.j0 k a0 t703 ((t703.length : Int) != 4)))
def impl_ReadRecord.T4 : Bool × List (List Nat × List Nat) := (true, [([], []), ([0], [0]), ([1], [1]), ([], []), ([3], [3]), ([4], [4]), ([2, 5], [2, 5]), ([], []), ([7, 6, 0, 1, 2, 3, 4, 5, 6, 7], [6, 7])])
def impl_ReadRecord.B4 : List Nat := [0, 1, 3, 0, 8, 24, 63, 0, 255]
theorem impl_ReadRecord.tab4 : rtab .any (opsOf Tryz.f30 4) = impl_ReadRecord.T4 := by kernel_rfl
theorem impl_ReadRecord.bits4 : waitsOk impl_ReadRecord.T4.2 impl_ReadRecord.B4 = true := by kernel_rfl
set_option maxHeartbeats 8000000 in
set_option maxRecDepth 100000 in
theorem impl_ReadRecord.calls (k : Nat) (a0 : ByteArray) (r1 : ByteArray) (r2 : Int) (r3 : Int) (r4 : ByteArray) (r5 : Bool) (w : World) (h : impl_ReadRecord.f k a0 = some (r1, r2, r3, r4, r5)) (hv_ : Vars w := by exact vv_) :
 Calls Tryz.prog 30 #[.string a0] w fun e w' => e = .returned (.tuple #[.agg #[.string r1, .int .i64 r2, .int .i64 r3, .string r4], .bool r5]) ∧ Below w.heap.size w w' := by
 have HV_ := a0_ hv_
 clear hv_
 have hu45 := Tryz.underlying45
 have HB := a0_ (Below.refl w.heap.size w)
 have H := h
 clear h
 unfold impl_ReadRecord.f at H
 obtain ⟨t703, A20, H⟩ := Option.bind_eq_some_iff.mp H
 have A2 := a0_ A20
 clear A20
 have HC3 := a0_ H
 clear H
 go_enter Tryz.func30, Tryz.ntmps30
 go_upto_region 2 with (first | ((with_reducible refine gate_dst (N := 2) rfl ?_); (try (refine gate_guard (by rfl) ?_; dsimp only)); refine boxS_ 2 #[.string (⟨#[]⟩ : ByteArray), .int .i64 0, .int .i64 0, .string (⟨#[]⟩ : ByteArray)] 45 (fun gb702 hg w4 hbox hb => ?_); have n0_ := a0_ (below_step bq0_ hb); have n1_ := a0_ (hbox); have n2_ := a0_ (gw_ hg : w.heap.size ≤ gb702); have n3_ := n2_; clear HB; have HB := n0_; have BK702 := n1_; have GW702 := n2_; have GE702 := n3_; clear n0_ n1_ n2_ n3_; clear hb hbox hg) | ((with_reducible refine gate_callee (f := 85) rfl ?_); refine goesL_ (some 7) rfl rfl Tryz.func85 (by kernel_rfl) rfl #[.string a0, .string (⟨#[32]⟩ : ByteArray), .int .i64 4] rfl argsS_ ?_; (with_reducible refine (strings_SplitN.calls a0 (⟨#[32]⟩ : ByteArray) 4 t703 _ A2.out).mono ?_); rintro e w5 ⟨v704, rfl, ho0, hb⟩; refine ⟨_, rfl, ?_⟩; have HO705 := a0_ (Kd.R_lower ho0 (below_size bq1_)); replace BK702 := a0_ (bkB_ BK702 hb); replace HB := a0_ (below_step bq1_ hb); clear hb; (try clear ho0)))
 (try simp only [Act.put, List.setIfInBounds_toArray, List.set_cons_zero, List.set_cons_succ])
 go_cut [15] (fun v15 wc => ∃ (kq : Nat) (x15_2 : Bool), v15 = .bool x15_2 ∧ Aside0 (impl_ReadRecord.j0 kq a0 t703 x15_2 = some (r1, r2, r3, r4, r5)) ∧ Aside0 (kq ≤ k) ∧ Aside0 (Kd.R Kd.string 9 wc w.heap.size (fun _ => True) v704 t703) ∧ Aside0 (wc.heap[gb702]? = some (.cells #[.string (⟨#[]⟩ : ByteArray), .int .i64 0, .int .i64 0, .string (⟨#[]⟩ : ByteArray)] 45 (0, 0))) ∧ Aside0 (Below w.heap.size w wc))
 case first =>
  have H := HC3.out
  clear HC3
  by_cases c6 : (a0.size : Int) > 300
  case pos =>
   rw [if_pos c6] at H
   have c6b0 := decide_eq_true c6
   have c6b1 : decide (300 < a0.size) = true := decide_eq_true (by omega)
   clear c6
   (first | rw [c6b0] | (simp only [i64_w, i32_w]; rw [c6b0]) | skip)
   have H' := a0_ H
   clear H
   go_wp2
   go_meet
   case rel => exact ⟨_, (true), rs_, H', ⟨by first | omega | exact Nat.le_refl _⟩, ⟨by (with_reducible repeat (first | apply Kd.R_alloc | apply Kd.R_drewN | apply Kd.R_drew)); exact HO705.out⟩, ⟨bz_⟩, ⟨bq1_⟩⟩
  rw [if_neg c6] at H
  have c6b0 := decide_eq_false c6
  have c6b1 : decide (300 < a0.size) = false := decide_eq_false (by omega)
  clear c6
  (first | rw [c6b0] | (simp only [i64_w, i32_w]; rw [c6b0]) | skip)
  have H' := a0_ H
  clear H
  obtain ⟨Ao7, co7, eo7⟩ := Kd.R_slice HO705.out
  subst eo7
  go_wp2
  go_meet
  case rel => exact ⟨_, (((t703.length : Int) != 4)), rs_, H', ⟨by first | omega | exact Nat.le_refl _⟩, ⟨by (with_reducible repeat (first | apply Kd.R_alloc | apply Kd.R_drewN | apply Kd.R_drew)); exact HO705.out⟩, ⟨bz_⟩, ⟨bq1_⟩⟩
 case rest =>
  clear HC3
  obtain ⟨kq, x15_2, rfl, HA, HJ2, HO_4, BK702, HB⟩ := hcut
  cases kq with
  | zero => exact absurd HA.out (by simp [impl_ReadRecord.j0])
  | succ kj2 =>
   have H := HA.out
   clear HA
   simp only [impl_ReadRecord.j0] at H
   by_cases c8 : x15_2 = true
   case pos =>
    subst c8
    rw [if_pos rfl] at H
    simp only [Option.some.injEq, Prod.mk.injEq] at H
    obtain ⟨rfl, rfl, rfl, rfl, rfl⟩ := H
    obtain ⟨z9_0, z9_1, z9_2, z9_3, q9_0, q9_1, q9_2, q9_3⟩ := bk4_ BK702.out
    go_wp2
    refine bodyPost_ret (results_ct rfl _ _ gb702 45 #[.string (⟨#[]⟩ : ByteArray), .int .i64 0, .int .i64 0, .string (⟨#[]⟩ : ByteArray)] (0, 0) _ rfl (put4_ BK702.out) Tryz.underlying45 rfl (by kernel_rfl)) rfl ?_
    exact ⟨rr_, bq1_⟩
   replace c8 := Bool.eq_false_iff.mpr c8
   subst c8
   rw [if_neg (show ¬ (false = true) by decide)] at H
   by_cases c10 : 0 < (t703.length : Int)
   case neg =>
    rw [if_neg c10] at H
    exact absurd H (by simp)
   rw [if_pos c10] at H
   have c10b0 := decide_eq_true c10
   have c10b1 : decide (0 < t703.length) = true := decide_eq_true (by omega)
   clear c10
   by_cases c11 : 3 < (t703.length : Int)
   case neg =>
    rw [if_neg c11] at H
    exact absurd H (by simp)
   rw [if_pos c11] at H
   have c11b0 := decide_eq_true c11
   have c11b1 : decide (3 < t703.length) = true := decide_eq_true (by omega)
   clear c11
   have HC12 := a0_ H
   clear H
   try go_wp2
   replace HO_4 := a0_ (Kd.R_drew HO_4.out)
   replace BK702 := a0_ (blk_drew BK702.out)
   replace HB := a0_ (below_drew1 HB.out)
   obtain ⟨Ao14, co14, eo14⟩ := Kd.R_slice HO_4.out
   (first | subst eo14 | (injection eo14 with f1_ f2_ f3_; have f4_ := f1_.symm; have f5_ := f3_.symm; clear f1_ f2_ f3_; subst f4_; subst f5_))
   have p706 : 0 ≤ (0 : Int) := (by omega)
   have q706 : 0 < (t703.length : Int) := dec_
   obtain ⟨ad706, e706, hx706_0⟩ := Kd.at_string (Kd.R_reads' HO_4.out).2.2 0 p706 q706
   cases e706
   have qi706 : (0 < t703.length) = True := eq_true (by omega)
   (try rw [show ((0 : Int)).toNat = 0 from rfl] at hx706_0)
   (try rw [Addr.add_zero'] at hx706_0)
   replace p706 := eq_true p706
   replace q706 := eq_true q706
   have p707 : 0 ≤ (3 : Int) := (by omega)
   have q707 : 3 < (t703.length : Int) := dec_
   obtain ⟨ad707, e707, hx707_0⟩ := Kd.at_string (Kd.R_reads' HO_4.out).2.2 3 p707 q707
   obtain rfl : ad706 = ad707 := (by injection e707)
   (try simp only [show (3 : Int).toNat = 3 from rfl, Nat.reduceMul, Nat.reduceEqDiff, Go.Addr.add, ↓reduceIte] at hx707_0)
   have qi707 : (3 < t703.length) = True := eq_true (by omega)
   (try rw [show ((3 : Int)).toNat = 3 from rfl] at hx707_0)
   replace p707 := eq_true p707
   replace q707 := eq_true q707
   refine start_ (n := 9) (S := fun w' => w'.cell? ad706 = some (.string (rdOf ByteArray.empty t703 0)) ∧ w'.cell? ⟨ad706.block, ad706.off + 3, none⟩ = some (.string (rdOf ByteArray.empty t703 3))) (ds := []) #[false, false, false, false, false, false, false, false, false] (by kernel_rfl) rfl rfl ⟨hx706_0, hx707_0⟩ (fun hHeld => ?_); refine with_tabW impl_ReadRecord.tab4 impl_ReadRecord.bits4 (fun HT_ HW_ => ?_)
   generalize wc.drew = w13 at HO_4 BK702 HB hx706_0 hx707_0 hHeld ⊢
   refine pureS_ 0 (some 17) ?_
   refine pureS_ 1 (some 18) ?_
   refine pureS_ 3 (some 20) ?_
   refine pureS_ 4 (some 21) ?_
   refine takeS_ 2 (some 19) ?_
   refine takeS_ 5 (some 22) ?_
   refine pureS_ 6 (some 23) ?_
   refine oneS_ 7 (some 5) (fun K hK => ?_)
   refine box_step ?hg (N := 5) ?hd (cs := #[.string (⟨#[]⟩ : ByteArray), .int .i64 0, .int .i64 0, .string (⟨#[]⟩ : ByteArray)]) (t := 45) ?hr ?_; (case hd => rfl); (case hg => rfl); (case hr => first | (go_simp; done) | (go_simp; rfl))
   intro gb708 hg w15 hbox hb
   have HS0_ := (hb.cell (World.block_lt_of_cell? _ _ (hHeld.1))).trans (hHeld.1)
   have HS1_ := (hb.cell (World.block_lt_of_cell? _ _ (hHeld.2))).trans (hHeld.2)
   have n0_ := a0_ (Kd.R_below (kR_ HO_4.out) hb)
   have n1_ := a0_ (bkB_ BK702 hb)
   have n2_ := a0_ (below_step bq1_ hb)
   have n3_ := a0_ (hbox)
   have n4_ := a0_ ((by rw [hg]; exact (below_size bq1_) : w.heap.size ≤ gb708))
   have n5_ := a0_ ((by rw [hg]; exact (below_size bq1_) : w.heap.size ≤ gb708))
   have n6_ := a0_ ((by rw [hg]; exact Nat.ne_of_lt (blk_lt (g := gb702) (o := .cells #[.string (⟨#[]⟩ : ByteArray), .int .i64 0, .int .i64 0, .string (⟨#[]⟩ : ByteArray)] 45 (0, 0)) (kB_ BK702.out)) : gb702 ≠ gb708))
   have n7_ := a0_ ((by rw [hg]; exact Nat.ne_of_gt (blk_lt (g := gb702) (o := .cells #[.string (⟨#[]⟩ : ByteArray), .int .i64 0, .int .i64 0, .string (⟨#[]⟩ : ByteArray)] 45 (0, 0)) (kB_ BK702.out)) : gb708 ≠ gb702))
   clear HO_4
   clear BK702
   clear HB
   have HO_4 := n0_
   have BK702 := n1_
   have HB := n2_
   have BK708 := n3_
   have GW708 := n4_
   have GE708 := n5_
   have NB702_708 := n6_
   have NB708_702 := n7_
   clear n0_ n1_ n2_ n3_ n4_ n5_ n6_ n7_
   clear hb hbox hg
   refine hK.out _ _ ⟨HS0_, HS1_⟩ (fun hHeld => ?_)
   clear hK K
   refine normS_ ?_
   refine oneS_ 8 none (fun K hK => ?_)
   have hs16 : w15.cell? ⟨gb708, 0, none⟩ = some (.string (⟨#[]⟩ : ByteArray)) := (blk_cell BK708.out 0).trans rfl
   have hfs16 := blk_frozen BK708.out 0
   have hns16_0 := NB702_708.out
   have hms16_0 := NB708_702.out
   have hs17 : w15.cell? ⟨gb708, 1, none⟩ = some (.int .i64 0) := (blk_cell BK708.out 1).trans rfl
   have hfs17 := blk_frozen BK708.out 1
   have hns17_0 := NB702_708.out
   have hms17_0 := NB708_702.out
   have hs18 : w15.cell? ⟨gb708, 2, none⟩ = some (.int .i64 0) := (blk_cell BK708.out 2).trans rfl
   have hfs18 := blk_frozen BK708.out 2
   have hns18_0 := NB702_708.out
   have hms18_0 := NB708_702.out
   have hs19 : w15.cell? ⟨gb708, 3, none⟩ = some (.string (⟨#[]⟩ : ByteArray)) := (blk_cell BK708.out 3).trans rfl
   have hfs19 := blk_frozen BK708.out 3
   have hns19_0 := NB702_708.out
   have hms19_0 := NB708_702.out
   refine skip_ (w1 := ?_) (by rfl) rfl ?_ ?_
   rotate_left
   · go_simp
     rfl
   refine hK.out _ _ ⟨((cell_far (p := ⟨gb708, _, none⟩) (by first | exact Kd.own_blk (Kd.R_ne HO_4.out BK708.out (by decide)) | (rw [add_block]; exact Kd.own_blk (Kd.R_ne HO_4.out BK708.out (by decide))) | (show (Addr.add _ _).block ≠ _; rw [add_block]; exact Kd.own_blk (Kd.R_ne HO_4.out BK708.out (by decide))) | (dsimp only; exact Kd.own_blk (Kd.R_ne HO_4.out BK708.out (by decide)))) _).trans (((cell_far (p := ⟨gb708, _, none⟩) (by first | exact Kd.own_blk (Kd.R_ne HO_4.out BK708.out (by decide)) | (rw [add_block]; exact Kd.own_blk (Kd.R_ne HO_4.out BK708.out (by decide))) | (show (Addr.add _ _).block ≠ _; rw [add_block]; exact Kd.own_blk (Kd.R_ne HO_4.out BK708.out (by decide))) | (dsimp only; exact Kd.own_blk (Kd.R_ne HO_4.out BK708.out (by decide)))) _).trans (((cell_far (p := ⟨gb708, _, none⟩) (by first | exact Kd.own_blk (Kd.R_ne HO_4.out BK708.out (by decide)) | (rw [add_block]; exact Kd.own_blk (Kd.R_ne HO_4.out BK708.out (by decide))) | (show (Addr.add _ _).block ≠ _; rw [add_block]; exact Kd.own_blk (Kd.R_ne HO_4.out BK708.out (by decide))) | (dsimp only; exact Kd.own_blk (Kd.R_ne HO_4.out BK708.out (by decide)))) _).trans (((cell_far (p := ⟨gb708, _, none⟩) (by first | exact Kd.own_blk (Kd.R_ne HO_4.out BK708.out (by decide)) | (rw [add_block]; exact Kd.own_blk (Kd.R_ne HO_4.out BK708.out (by decide))) | (show (Addr.add _ _).block ≠ _; rw [add_block]; exact Kd.own_blk (Kd.R_ne HO_4.out BK708.out (by decide))) | (dsimp only; exact Kd.own_blk (Kd.R_ne HO_4.out BK708.out (by decide)))) _).trans (hHeld.1)))))))), ((cell_far (p := ⟨gb708, _, none⟩) (by first | exact Kd.own_blk (Kd.R_ne HO_4.out BK708.out (by decide)) | (rw [add_block]; exact Kd.own_blk (Kd.R_ne HO_4.out BK708.out (by decide))) | (show (Addr.add _ _).block ≠ _; rw [add_block]; exact Kd.own_blk (Kd.R_ne HO_4.out BK708.out (by decide))) | (dsimp only; exact Kd.own_blk (Kd.R_ne HO_4.out BK708.out (by decide)))) _).trans (((cell_far (p := ⟨gb708, _, none⟩) (by first | exact Kd.own_blk (Kd.R_ne HO_4.out BK708.out (by decide)) | (rw [add_block]; exact Kd.own_blk (Kd.R_ne HO_4.out BK708.out (by decide))) | (show (Addr.add _ _).block ≠ _; rw [add_block]; exact Kd.own_blk (Kd.R_ne HO_4.out BK708.out (by decide))) | (dsimp only; exact Kd.own_blk (Kd.R_ne HO_4.out BK708.out (by decide)))) _).trans (((cell_far (p := ⟨gb708, _, none⟩) (by first | exact Kd.own_blk (Kd.R_ne HO_4.out BK708.out (by decide)) | (rw [add_block]; exact Kd.own_blk (Kd.R_ne HO_4.out BK708.out (by decide))) | (show (Addr.add _ _).block ≠ _; rw [add_block]; exact Kd.own_blk (Kd.R_ne HO_4.out BK708.out (by decide))) | (dsimp only; exact Kd.own_blk (Kd.R_ne HO_4.out BK708.out (by decide)))) _).trans (((cell_far (p := ⟨gb708, _, none⟩) (by first | exact Kd.own_blk (Kd.R_ne HO_4.out BK708.out (by decide)) | (rw [add_block]; exact Kd.own_blk (Kd.R_ne HO_4.out BK708.out (by decide))) | (show (Addr.add _ _).block ≠ _; rw [add_block]; exact Kd.own_blk (Kd.R_ne HO_4.out BK708.out (by decide))) | (dsimp only; exact Kd.own_blk (Kd.R_ne HO_4.out BK708.out (by decide)))) _).trans (hHeld.2))))))))⟩ (fun hHeld => ?_)
   clear hK K
   refine done_ (done_of HT_.out (by kernel_rfl)) ?_
   have hnb20 := NB708_702.out
   have hnc20 := NB702_708.out
   obtain ⟨z21_0, z21_1, z21_2, z21_3, q21_0, q21_1, q21_2, q21_3⟩ := bk4_ BK708.out
   go_upto_if 26 with (fail)
   go_cut [] (fun wc => ∃ (kq : Nat) (x709000_11 : ByteArray), Aside0 (impl_ReadRecord.j1 kq a0 t703 x709000_11 0 0 (rdOf ByteArray.empty t703 3) = some (r1, r2, r3, r4, r5)) ∧ Aside0 (kq ≤ kj2) ∧ Aside0 (Kd.R Kd.string 9 wc w.heap.size (fun _ => True) (.slice (some ad706) t703.length co14) t703) ∧ Aside0 (wc.heap[gb702]? = some (.cells #[.string (⟨#[]⟩ : ByteArray), .int .i64 0, .int .i64 0, .string (⟨#[]⟩ : ByteArray)] 45 (0, 0))) ∧ Aside0 (wc.heap[gb708]? = some (.cells #[.string x709000_11, .int .i64 0, .int .i64 0, .string (rdOf ByteArray.empty t703 3)] 45 (0, 0))) ∧ Aside0 (Below w.heap.size w wc))
   case first =>
    have H := HC12.out
    clear HC12
    by_cases c22 : (rdOf ByteArray.empty t703 0).toList = ([46] : List UInt8)
    case neg =>
     rw [if_neg c22] at H
     have c22b0 := beq_eq_false_iff_ne.mpr c22
     have c22b1 := bne_iff_ne.mpr c22
     (first | rw [c22b0] | (simp only [i64_w, i32_w]; rw [c22b0]) | skip)
     have H' := a0_ H
     clear H
     go_wp2
     go_meet
     case rel => exact ⟨_, (rdOf ByteArray.empty t703 0), H', ⟨by have := HJ2.out; first | omega | exact Nat.le_refl _⟩, ⟨by (with_reducible repeat (first | apply Kd.R_alloc | apply Kd.R_drewN | apply Kd.R_drew)); exact Kd.R_mono (Kd.R_far (p := ⟨gb708, 3, none⟩) (Kd.R_far (p := ⟨gb708, 2, none⟩) (Kd.R_far (p := ⟨gb708, 1, none⟩) (Kd.R_far (p := ⟨gb708, 0, none⟩) (Kd.R_types HO_4.out BK708.out (by decide)) (fun _ hk => hk.2) (.string (rdOf ByteArray.empty t703 0))) (fun _ hk => hk.2) (.int .i64 0)) (fun _ hk => hk.2) (.int .i64 0)) (fun _ hk => hk.2) (.string (rdOf ByteArray.empty t703 3))) (fun _ hk => trivial)⟩, ⟨bfar4_ NB702_708.out BK702.out⟩, ⟨put4_ BK708.out⟩, ⟨bq1_⟩⟩
    rw [if_pos c22] at H
    have c22b0 := beq_iff_eq.mpr c22
    have c22b1 := bne_eq_false_iff_eq.mpr c22
    clear c22
    (first | rw [c22b0] | (simp only [i64_w, i32_w]; rw [c22b0]) | skip)
    have H' := a0_ H
    clear H
    have hnb23 := NB708_702.out
    have hnc23 := NB702_708.out
    obtain ⟨z24_0, z24_1, z24_2, z24_3, q24_0, q24_1, q24_2, q24_3⟩ := bk4_ BK708.out
    go_wp2
    go_meet
    case rel => exact ⟨_, ((⟨#[]⟩ : ByteArray)), H', ⟨by have := HJ2.out; first | omega | exact Nat.le_refl _⟩, ⟨by (with_reducible repeat (first | apply Kd.R_alloc | apply Kd.R_drewN | apply Kd.R_drew)); exact Kd.R_mono (Kd.R_far (p := ⟨gb708, 0, none⟩) (Kd.R_far (p := ⟨gb708, 3, none⟩) (Kd.R_far (p := ⟨gb708, 2, none⟩) (Kd.R_far (p := ⟨gb708, 1, none⟩) (Kd.R_far (p := ⟨gb708, 0, none⟩) (Kd.R_types HO_4.out BK708.out (by decide)) (fun _ hk => hk.2) (.string (rdOf ByteArray.empty t703 0))) (fun _ hk => hk.2) (.int .i64 0)) (fun _ hk => hk.2) (.int .i64 0)) (fun _ hk => hk.2) (.string (rdOf ByteArray.empty t703 3))) (fun _ hk => hk.2) (.string (⟨#[]⟩ : ByteArray))) (fun _ hk => trivial)⟩, ⟨bz_⟩, ⟨by (with_reducible repeat (first | refine blk_drewN ?_ _ | refine blk_drew ?_ | refine blk_alloc ?_ _)); refine blk_put (cs := #[.string (rdOf ByteArray.empty t703 0), .int .i64 0, .int .i64 0, .string (rdOf ByteArray.empty t703 3)]) ?_ 0 _ rfl; (with_reducible repeat (first | refine blk_drewN ?_ _ | refine blk_drew ?_ | refine blk_alloc ?_ _)); refine blk_put (cs := #[.string (rdOf ByteArray.empty t703 0), .int .i64 0, .int .i64 0, .string (⟨#[]⟩ : ByteArray)]) ?_ 3 _ rfl; (with_reducible repeat (first | refine blk_drewN ?_ _ | refine blk_drew ?_ | refine blk_alloc ?_ _)); refine blk_put (cs := #[.string (rdOf ByteArray.empty t703 0), .int .i64 0, .int .i64 0, .string (⟨#[]⟩ : ByteArray)]) ?_ 2 _ rfl; (with_reducible repeat (first | refine blk_drewN ?_ _ | refine blk_drew ?_ | refine blk_alloc ?_ _)); refine blk_put (cs := #[.string (rdOf ByteArray.empty t703 0), .int .i64 0, .int .i64 0, .string (⟨#[]⟩ : ByteArray)]) ?_ 1 _ rfl; (with_reducible repeat (first | refine blk_drewN ?_ _ | refine blk_drew ?_ | refine blk_alloc ?_ _)); refine blk_put (cs := #[.string (⟨#[]⟩ : ByteArray), .int .i64 0, .int .i64 0, .string (⟨#[]⟩ : ByteArray)]) ?_ 0 _ rfl; (with_reducible repeat (first | refine blk_drewN ?_ _ | refine blk_drew ?_ | refine blk_alloc ?_ _)); exact BK708.out⟩, ⟨bq1_⟩⟩
   case rest =>
    clear HC12
    try clear p2
    try clear c3
    try clear c6
    try clear c6b0
    try clear c6b1
    try clear c8
    try clear c10
    try clear c10b0
    try clear c10b1
    try clear c11
    try clear c11b0
    try clear c11b1
    try clear z21_0 z21_1 z21_2 z21_3
    try clear q21_0 q21_1 q21_2 q21_3
    try clear hx706_0
    try clear hx707_0
    try clear p2
    try clear p706
    try clear p707
    try clear q706
    try clear q707
    obtain ⟨kq, x709000_11, HA, HJ11, HO_4, BK702, BK708, HB⟩ := hcut
    cases kq with
    | zero => exact absurd HA.out (by simp [impl_ReadRecord.j1])
    | succ kj11 =>
     have H := HA.out
     clear HA
     simp only [impl_ReadRecord.j1] at H
     by_cases c25 : 1 < (t703.length : Int)
     case neg =>
      rw [if_neg c25] at H
      exact absurd H (by simp)
     rw [if_pos c25] at H
     have c25b0 := decide_eq_true c25
     have c25b1 : decide (1 < t703.length) = true := decide_eq_true (by omega)
     clear c25
     obtain ⟨⟨t710, t711⟩, A260, H⟩ := Option.bind_eq_some_iff.mp H
     have A26 := a0_ A260
     clear A260
     by_cases c27 : 2 < (t703.length : Int)
     case neg =>
      rw [if_neg c27] at H
      exact absurd H (by simp)
     rw [if_pos c27] at H
     have c27b0 := decide_eq_true c27
     have c27b1 : decide (2 < t703.length) = true := decide_eq_true (by omega)
     clear c27
     obtain ⟨⟨t713, t714⟩, A280, H⟩ := Option.bind_eq_some_iff.mp H
     have A28 := a0_ A280
     clear A280
     obtain ⟨t715, A290, H⟩ := Option.bind_eq_some_iff.mp H
     have A29 := a0_ A290
     clear A290
     by_cases c30 : t715 = true
     case neg =>
      replace c30 := Bool.eq_false_iff.mpr c30
      subst c30
      rw [if_neg (show ¬ (false = true) by decide)] at H
      simp only [Option.some.injEq, Prod.mk.injEq] at H
      obtain ⟨rfl, rfl, rfl, rfl, rfl⟩ := H
      have p709 : 0 ≤ (1 : Int) := (by omega)
      have q709 : 1 < (t703.length : Int) := dec_
      obtain ⟨ad709, e709, hx709_0⟩ := Kd.at_string (Kd.R_reads' HO_4.out).2.2 1 p709 q709
      obtain rfl : ad706 = ad709 := (by injection e709)
      (try simp only [show (1 : Int).toNat = 1 from rfl, Nat.reduceMul, Nat.reduceEqDiff, Go.Addr.add, ↓reduceIte] at hx709_0)
      have qi709 : (1 < t703.length) = True := eq_true (by omega)
      (try rw [show ((1 : Int)).toNat = 1 from rfl] at hx709_0)
      replace p709 := eq_true p709
      replace q709 := eq_true q709
      go_wp2_with (first | ((with_reducible refine gate_callee (f := 86) rfl ?_); refine goesL_ (some 32) rfl rfl Tryz.func86 (by kernel_rfl) rfl #[.string (rdOf ByteArray.empty t703 1)] rfl argsS_ ?_; (with_reducible refine (strconv_Atoi.calls (rdOf ByteArray.empty t703 1) t710 t711 _ A26.out (hv := by refine Vars.below (Aside0.out (by assumption)) ?_; repeat (first | (with_reducible first | exact Below.refl _ _ | exact Aside0.out (by assumption) | apply below_alloc | apply pw_below_drewN | apply below_drew1 | refine below_set ?_ (Aside0.out (by assumption))) | exact Aside0.out (by assumption)))).mono ?_); rintro e w52 ⟨⟨ev_, rfl⟩, hb⟩; refine ⟨_, rfl, ?_⟩; replace HO_4 := a0_ (Kd.R_below (kR_ HO_4.out) hb); replace BK702 := a0_ (bkB_ BK702 hb); replace BK708 := a0_ (bkB_ BK708 hb); replace HB := a0_ (below_step bq1_ hb); clear hb; (try simp only [errW_none, errW_some]); have hnb53 := NB708_702.out; have hnc53 := NB702_708.out; obtain ⟨z54_0, z54_1, z54_2, z54_3, q54_0, q54_1, q54_2, q54_3⟩ := bk4_ BK708.out; have p712 : 0 ≤ (2 : Int) := (by omega); have q712 : 2 < (t703.length : Int) := dec_; obtain ⟨ad712, e712, hx712_0⟩ := Kd.at_string (Kd.R_reads' HO_4.out).2.2 2 p712 q712; obtain rfl : ad706 = ad712 := (by injection e712); (try simp only [show (2 : Int).toNat = 2 from rfl, Nat.reduceMul, Nat.reduceEqDiff, Go.Addr.add, ↓reduceIte] at hx712_0); have qi712 : (2 < t703.length) = True := eq_true (by omega); (try rw [show ((2 : Int)).toNat = 2 from rfl] at hx712_0); have hn712_0 : ad706.block ≠ gb708 := Kd.own_blk (Kd.R_ne HO_4.out BK708.out (by decide)); replace hx712_0 := (cell_far (p := ⟨gb708, 2, none⟩) (by first | (rw [add_block]; exact hn712_0) | (show (Addr.add _ _).block ≠ _; rw [add_block]; exact hn712_0) | exact hn712_0) (.int .i64 t710)).trans hx712_0; clear hn712_0; replace p712 := eq_true p712; replace q712 := eq_true q712) | ((with_reducible refine gate_callee (f := 86) rfl ?_); refine goesL_ (some 40) rfl rfl Tryz.func86 (by kernel_rfl) rfl #[.string (rdOf ByteArray.empty t703 2)] rfl argsS_ ?_; (with_reducible refine (strconv_Atoi.calls (rdOf ByteArray.empty t703 2) t713 t714 _ A28.out (hv := by refine Vars.below (Aside0.out (by assumption)) ?_; repeat (first | (with_reducible first | exact Below.refl _ _ | exact Aside0.out (by assumption) | apply below_alloc | apply pw_below_drewN | apply below_drew1 | refine below_set ?_ (Aside0.out (by assumption))) | exact Aside0.out (by assumption)))).mono ?_); rintro e w55 ⟨⟨ev_, rfl⟩, hb⟩; refine ⟨_, rfl, ?_⟩; replace HO_4 := a0_ (Kd.R_below (kR_ (Kd.R_mono (Kd.R_far (p := ⟨gb708, 2, none⟩) (Kd.R_types HO_4.out BK708.out (by decide)) (fun _ hk => hk.2) (.int .i64 t710)) (fun _ h_ => h_.1))) hb); replace BK702 := a0_ (blk_below (g := gb702) (o := .cells #[.string (⟨#[]⟩ : ByteArray), .int .i64 0, .int .i64 0, .string (⟨#[]⟩ : ByteArray)] 45 (0, 0)) bz_ hb); replace BK708 := a0_ (blk_below (g := gb708) (o := .cells #[.string x709000_11, .int .i64 0, .int .i64 t710, .string (rdOf ByteArray.empty t703 3)] 45 (0, 0)) (by (with_reducible repeat (first | refine blk_drewN ?_ _ | refine blk_drew ?_ | refine blk_alloc ?_ _)); refine blk_put (cs := #[.string x709000_11, .int .i64 0, .int .i64 0, .string (rdOf ByteArray.empty t703 3)]) ?_ 2 _ rfl; (with_reducible repeat (first | refine blk_drewN ?_ _ | refine blk_drew ?_ | refine blk_alloc ?_ _)); exact BK708.out) hb); replace HB := a0_ (below_step bq1_ hb); clear hb; (try simp only [errW_none, errW_some]); obtain ⟨z56_0, z56_1, z56_2, z56_3, q56_0, q56_1, q56_2, q56_3⟩ := bk4_ BK708.out) | ((with_reducible refine gate_callee (f := 29) rfl ?_); refine goesL_ (some 45) rfl rfl Tryz.func29 (by kernel_rfl) rfl #[.agg #[.string x709000_11, .int .i64 t713, .int .i64 t710, .string (rdOf ByteArray.empty t703 3)]] rfl argsS_ ?_; (with_reducible refine (impl_GoodRecord.calls kj11 x709000_11 t713 t710 (rdOf ByteArray.empty t703 3) false _ A29.out (hv_ := by refine Vars.below (Aside0.out (by assumption)) ?_; repeat (first | (with_reducible first | exact Below.refl _ _ | exact Aside0.out (by assumption) | apply below_alloc | apply pw_below_drewN | apply below_drew1 | refine below_set ?_ (Aside0.out (by assumption))) | exact Aside0.out (by assumption)))).mono ?_); rintro e w57 ⟨rfl, hb⟩; refine ⟨_, rfl, ?_⟩; replace HO_4 := a0_ (Kd.R_below (kR_ (Kd.R_mono (Kd.R_far (p := ⟨gb708, 1, none⟩) (Kd.R_types HO_4.out BK708.out (by decide)) (fun _ hk => hk.2) (.int .i64 t713)) (fun _ h_ => h_.1))) hb); replace BK702 := a0_ (blk_below (g := gb702) (o := .cells #[.string (⟨#[]⟩ : ByteArray), .int .i64 0, .int .i64 0, .string (⟨#[]⟩ : ByteArray)] 45 (0, 0)) bz_ hb); replace BK708 := a0_ (blk_below (g := gb708) (o := .cells #[.string x709000_11, .int .i64 t713, .int .i64 t710, .string (rdOf ByteArray.empty t703 3)] 45 (0, 0)) (by (with_reducible repeat (first | refine blk_drewN ?_ _ | refine blk_drew ?_ | refine blk_alloc ?_ _)); refine blk_put (cs := #[.string x709000_11, .int .i64 0, .int .i64 t710, .string (rdOf ByteArray.empty t703 3)]) ?_ 1 _ rfl; (with_reducible repeat (first | refine blk_drewN ?_ _ | refine blk_drew ?_ | refine blk_alloc ?_ _)); exact BK708.out) hb); replace HB := a0_ (below_step bq1_ hb); clear hb; obtain ⟨z58_0, z58_1, z58_2, z58_3, q58_0, q58_1, q58_2, q58_3⟩ := bk4_ BK702.out))
      refine bodyPost_ret (results_ct rfl _ _ gb702 45 #[.string (⟨#[]⟩ : ByteArray), .int .i64 0, .int .i64 0, .string (⟨#[]⟩ : ByteArray)] (0, 0) _ rfl (put4_ BK702.out) Tryz.underlying45 rfl (by kernel_rfl)) rfl ?_
      exact ⟨rr_, bq1_⟩
     subst c30
     rw [if_pos rfl] at H
     obtain ⟨t716, A310, H⟩ := Option.bind_eq_some_iff.mp H
     have A31 := a0_ A310
     clear A310
     by_cases c32 : t716.toList = a0.toList
     case neg =>
      rw [if_neg c32] at H
      have c32b0 := beq_eq_false_iff_ne.mpr c32
      have c32b1 := bne_iff_ne.mpr c32
      simp only [Option.some.injEq, Prod.mk.injEq] at H
      obtain ⟨rfl, rfl, rfl, rfl, rfl⟩ := H
      have p709 : 0 ≤ (1 : Int) := (by omega)
      have q709 : 1 < (t703.length : Int) := dec_
      obtain ⟨ad709, e709, hx709_0⟩ := Kd.at_string (Kd.R_reads' HO_4.out).2.2 1 p709 q709
      obtain rfl : ad706 = ad709 := (by injection e709)
      (try simp only [show (1 : Int).toNat = 1 from rfl, Nat.reduceMul, Nat.reduceEqDiff, Go.Addr.add, ↓reduceIte] at hx709_0)
      have qi709 : (1 < t703.length) = True := eq_true (by omega)
      (try rw [show ((1 : Int)).toNat = 1 from rfl] at hx709_0)
      replace p709 := eq_true p709
      replace q709 := eq_true q709
      go_wp2_with (first | ((with_reducible refine gate_callee (f := 86) rfl ?_); refine goesL_ (some 32) rfl rfl Tryz.func86 (by kernel_rfl) rfl #[.string (rdOf ByteArray.empty t703 1)] rfl argsS_ ?_; (with_reducible refine (strconv_Atoi.calls (rdOf ByteArray.empty t703 1) t710 t711 _ A26.out (hv := by refine Vars.below (Aside0.out (by assumption)) ?_; repeat (first | (with_reducible first | exact Below.refl _ _ | exact Aside0.out (by assumption) | apply below_alloc | apply pw_below_drewN | apply below_drew1 | refine below_set ?_ (Aside0.out (by assumption))) | exact Aside0.out (by assumption)))).mono ?_); rintro e w43 ⟨⟨ev_, rfl⟩, hb⟩; refine ⟨_, rfl, ?_⟩; replace HO_4 := a0_ (Kd.R_below (kR_ HO_4.out) hb); replace BK702 := a0_ (bkB_ BK702 hb); replace BK708 := a0_ (bkB_ BK708 hb); replace HB := a0_ (below_step bq1_ hb); clear hb; (try simp only [errW_none, errW_some]); have hnb44 := NB708_702.out; have hnc44 := NB702_708.out; obtain ⟨z45_0, z45_1, z45_2, z45_3, q45_0, q45_1, q45_2, q45_3⟩ := bk4_ BK708.out; have p712 : 0 ≤ (2 : Int) := (by omega); have q712 : 2 < (t703.length : Int) := dec_; obtain ⟨ad712, e712, hx712_0⟩ := Kd.at_string (Kd.R_reads' HO_4.out).2.2 2 p712 q712; obtain rfl : ad706 = ad712 := (by injection e712); (try simp only [show (2 : Int).toNat = 2 from rfl, Nat.reduceMul, Nat.reduceEqDiff, Go.Addr.add, ↓reduceIte] at hx712_0); have qi712 : (2 < t703.length) = True := eq_true (by omega); (try rw [show ((2 : Int)).toNat = 2 from rfl] at hx712_0); have hn712_0 : ad706.block ≠ gb708 := Kd.own_blk (Kd.R_ne HO_4.out BK708.out (by decide)); replace hx712_0 := (cell_far (p := ⟨gb708, 2, none⟩) (by first | (rw [add_block]; exact hn712_0) | (show (Addr.add _ _).block ≠ _; rw [add_block]; exact hn712_0) | exact hn712_0) (.int .i64 t710)).trans hx712_0; clear hn712_0; replace p712 := eq_true p712; replace q712 := eq_true q712) | ((with_reducible refine gate_callee (f := 86) rfl ?_); refine goesL_ (some 40) rfl rfl Tryz.func86 (by kernel_rfl) rfl #[.string (rdOf ByteArray.empty t703 2)] rfl argsS_ ?_; (with_reducible refine (strconv_Atoi.calls (rdOf ByteArray.empty t703 2) t713 t714 _ A28.out (hv := by refine Vars.below (Aside0.out (by assumption)) ?_; repeat (first | (with_reducible first | exact Below.refl _ _ | exact Aside0.out (by assumption) | apply below_alloc | apply pw_below_drewN | apply below_drew1 | refine below_set ?_ (Aside0.out (by assumption))) | exact Aside0.out (by assumption)))).mono ?_); rintro e w46 ⟨⟨ev_, rfl⟩, hb⟩; refine ⟨_, rfl, ?_⟩; replace HO_4 := a0_ (Kd.R_below (kR_ (Kd.R_mono (Kd.R_far (p := ⟨gb708, 2, none⟩) (Kd.R_types HO_4.out BK708.out (by decide)) (fun _ hk => hk.2) (.int .i64 t710)) (fun _ h_ => h_.1))) hb); replace BK702 := a0_ (blk_below (g := gb702) (o := .cells #[.string (⟨#[]⟩ : ByteArray), .int .i64 0, .int .i64 0, .string (⟨#[]⟩ : ByteArray)] 45 (0, 0)) bz_ hb); replace BK708 := a0_ (blk_below (g := gb708) (o := .cells #[.string x709000_11, .int .i64 0, .int .i64 t710, .string (rdOf ByteArray.empty t703 3)] 45 (0, 0)) (by (with_reducible repeat (first | refine blk_drewN ?_ _ | refine blk_drew ?_ | refine blk_alloc ?_ _)); refine blk_put (cs := #[.string x709000_11, .int .i64 0, .int .i64 0, .string (rdOf ByteArray.empty t703 3)]) ?_ 2 _ rfl; (with_reducible repeat (first | refine blk_drewN ?_ _ | refine blk_drew ?_ | refine blk_alloc ?_ _)); exact BK708.out) hb); replace HB := a0_ (below_step bq1_ hb); clear hb; (try simp only [errW_none, errW_some]); obtain ⟨z47_0, z47_1, z47_2, z47_3, q47_0, q47_1, q47_2, q47_3⟩ := bk4_ BK708.out) | ((with_reducible refine gate_callee (f := 29) rfl ?_); refine goesL_ (some 45) rfl rfl Tryz.func29 (by kernel_rfl) rfl #[.agg #[.string x709000_11, .int .i64 t713, .int .i64 t710, .string (rdOf ByteArray.empty t703 3)]] rfl argsS_ ?_; (with_reducible refine (impl_GoodRecord.calls kj11 x709000_11 t713 t710 (rdOf ByteArray.empty t703 3) true _ A29.out (hv_ := by refine Vars.below (Aside0.out (by assumption)) ?_; repeat (first | (with_reducible first | exact Below.refl _ _ | exact Aside0.out (by assumption) | apply below_alloc | apply pw_below_drewN | apply below_drew1 | refine below_set ?_ (Aside0.out (by assumption))) | exact Aside0.out (by assumption)))).mono ?_); rintro e w48 ⟨rfl, hb⟩; refine ⟨_, rfl, ?_⟩; replace HO_4 := a0_ (Kd.R_below (kR_ (Kd.R_mono (Kd.R_far (p := ⟨gb708, 1, none⟩) (Kd.R_types HO_4.out BK708.out (by decide)) (fun _ hk => hk.2) (.int .i64 t713)) (fun _ h_ => h_.1))) hb); replace BK702 := a0_ (blk_below (g := gb702) (o := .cells #[.string (⟨#[]⟩ : ByteArray), .int .i64 0, .int .i64 0, .string (⟨#[]⟩ : ByteArray)] 45 (0, 0)) bz_ hb); replace BK708 := a0_ (blk_below (g := gb708) (o := .cells #[.string x709000_11, .int .i64 t713, .int .i64 t710, .string (rdOf ByteArray.empty t703 3)] 45 (0, 0)) (by (with_reducible repeat (first | refine blk_drewN ?_ _ | refine blk_drew ?_ | refine blk_alloc ?_ _)); refine blk_put (cs := #[.string x709000_11, .int .i64 0, .int .i64 t710, .string (rdOf ByteArray.empty t703 3)]) ?_ 1 _ rfl; (with_reducible repeat (first | refine blk_drewN ?_ _ | refine blk_drew ?_ | refine blk_alloc ?_ _)); exact BK708.out) hb); replace HB := a0_ (below_step bq1_ hb); clear hb; obtain ⟨z49_0, z49_1, z49_2, z49_3, q49_0, q49_1, q49_2, q49_3⟩ := bk4_ BK708.out) | (go_at_call 81; (with_reducible refine (impl_recordText.calls x709000_11 t713 t710 (rdOf ByteArray.empty t703 3) t716 _ A31.out (hv_ := by refine Vars.below (Aside0.out (by assumption)) ?_; repeat (first | (with_reducible first | exact Below.refl _ _ | exact Aside0.out (by assumption) | apply below_alloc | apply pw_below_drewN | apply below_drew1 | refine below_set ?_ (Aside0.out (by assumption))) | exact Aside0.out (by assumption)))).mono ?_); rintro e w50 ⟨rfl, hb⟩; replace HO_4 := a0_ (Kd.R_below (kR_ HO_4.out) hb); replace BK702 := a0_ (bkB_ BK702 hb); replace BK708 := a0_ (bkB_ BK708 hb); replace HB := a0_ (below_step bq1_ hb); clear hb; obtain ⟨z51_0, z51_1, z51_2, z51_3, q51_0, q51_1, q51_2, q51_3⟩ := bk4_ BK702.out))
      refine bodyPost_ret (results_ct rfl _ _ gb702 45 #[.string (⟨#[]⟩ : ByteArray), .int .i64 0, .int .i64 0, .string (⟨#[]⟩ : ByteArray)] (0, 0) _ rfl (put4_ BK702.out) Tryz.underlying45 rfl (by kernel_rfl)) rfl ?_
      exact ⟨rr_, bq1_⟩
     rw [if_pos c32] at H
     have c32b0 := beq_iff_eq.mpr c32
     have c32b1 := bne_eq_false_iff_eq.mpr c32
     clear c32
     simp only [Option.some.injEq, Prod.mk.injEq] at H
     obtain ⟨rfl, rfl, rfl, rfl, rfl⟩ := H
     have p709 : 0 ≤ (1 : Int) := (by omega)
     have q709 : 1 < (t703.length : Int) := dec_
     obtain ⟨ad709, e709, hx709_0⟩ := Kd.at_string (Kd.R_reads' HO_4.out).2.2 1 p709 q709
     obtain rfl : ad706 = ad709 := (by injection e709)
     (try simp only [show (1 : Int).toNat = 1 from rfl, Nat.reduceMul, Nat.reduceEqDiff, Go.Addr.add, ↓reduceIte] at hx709_0)
     have qi709 : (1 < t703.length) = True := eq_true (by omega)
     (try rw [show ((1 : Int)).toNat = 1 from rfl] at hx709_0)
     replace p709 := eq_true p709
     replace q709 := eq_true q709
     go_wp2_with (first | ((with_reducible refine gate_callee (f := 86) rfl ?_); refine goesL_ (some 32) rfl rfl Tryz.func86 (by kernel_rfl) rfl #[.string (rdOf ByteArray.empty t703 1)] rfl argsS_ ?_; (with_reducible refine (strconv_Atoi.calls (rdOf ByteArray.empty t703 1) t710 t711 _ A26.out (hv := by refine Vars.below (Aside0.out (by assumption)) ?_; repeat (first | (with_reducible first | exact Below.refl _ _ | exact Aside0.out (by assumption) | apply below_alloc | apply pw_below_drewN | apply below_drew1 | refine below_set ?_ (Aside0.out (by assumption))) | exact Aside0.out (by assumption)))).mono ?_); rintro e w33 ⟨⟨ev_, rfl⟩, hb⟩; refine ⟨_, rfl, ?_⟩; replace HO_4 := a0_ (Kd.R_below (kR_ HO_4.out) hb); replace BK702 := a0_ (bkB_ BK702 hb); replace BK708 := a0_ (bkB_ BK708 hb); replace HB := a0_ (below_step bq1_ hb); clear hb; (try simp only [errW_none, errW_some]); have hnb34 := NB708_702.out; have hnc34 := NB702_708.out; obtain ⟨z35_0, z35_1, z35_2, z35_3, q35_0, q35_1, q35_2, q35_3⟩ := bk4_ BK708.out; have p712 : 0 ≤ (2 : Int) := (by omega); have q712 : 2 < (t703.length : Int) := dec_; obtain ⟨ad712, e712, hx712_0⟩ := Kd.at_string (Kd.R_reads' HO_4.out).2.2 2 p712 q712; obtain rfl : ad706 = ad712 := (by injection e712); (try simp only [show (2 : Int).toNat = 2 from rfl, Nat.reduceMul, Nat.reduceEqDiff, Go.Addr.add, ↓reduceIte] at hx712_0); have qi712 : (2 < t703.length) = True := eq_true (by omega); (try rw [show ((2 : Int)).toNat = 2 from rfl] at hx712_0); have hn712_0 : ad706.block ≠ gb708 := Kd.own_blk (Kd.R_ne HO_4.out BK708.out (by decide)); replace hx712_0 := (cell_far (p := ⟨gb708, 2, none⟩) (by first | (rw [add_block]; exact hn712_0) | (show (Addr.add _ _).block ≠ _; rw [add_block]; exact hn712_0) | exact hn712_0) (.int .i64 t710)).trans hx712_0; clear hn712_0; replace p712 := eq_true p712; replace q712 := eq_true q712) | ((with_reducible refine gate_callee (f := 86) rfl ?_); refine goesL_ (some 40) rfl rfl Tryz.func86 (by kernel_rfl) rfl #[.string (rdOf ByteArray.empty t703 2)] rfl argsS_ ?_; (with_reducible refine (strconv_Atoi.calls (rdOf ByteArray.empty t703 2) t713 t714 _ A28.out (hv := by refine Vars.below (Aside0.out (by assumption)) ?_; repeat (first | (with_reducible first | exact Below.refl _ _ | exact Aside0.out (by assumption) | apply below_alloc | apply pw_below_drewN | apply below_drew1 | refine below_set ?_ (Aside0.out (by assumption))) | exact Aside0.out (by assumption)))).mono ?_); rintro e w36 ⟨⟨ev_, rfl⟩, hb⟩; refine ⟨_, rfl, ?_⟩; replace HO_4 := a0_ (Kd.R_below (kR_ (Kd.R_mono (Kd.R_far (p := ⟨gb708, 2, none⟩) (Kd.R_types HO_4.out BK708.out (by decide)) (fun _ hk => hk.2) (.int .i64 t710)) (fun _ h_ => h_.1))) hb); replace BK702 := a0_ (blk_below (g := gb702) (o := .cells #[.string (⟨#[]⟩ : ByteArray), .int .i64 0, .int .i64 0, .string (⟨#[]⟩ : ByteArray)] 45 (0, 0)) bz_ hb); replace BK708 := a0_ (blk_below (g := gb708) (o := .cells #[.string x709000_11, .int .i64 0, .int .i64 t710, .string (rdOf ByteArray.empty t703 3)] 45 (0, 0)) (by (with_reducible repeat (first | refine blk_drewN ?_ _ | refine blk_drew ?_ | refine blk_alloc ?_ _)); refine blk_put (cs := #[.string x709000_11, .int .i64 0, .int .i64 0, .string (rdOf ByteArray.empty t703 3)]) ?_ 2 _ rfl; (with_reducible repeat (first | refine blk_drewN ?_ _ | refine blk_drew ?_ | refine blk_alloc ?_ _)); exact BK708.out) hb); replace HB := a0_ (below_step bq1_ hb); clear hb; (try simp only [errW_none, errW_some]); obtain ⟨z37_0, z37_1, z37_2, z37_3, q37_0, q37_1, q37_2, q37_3⟩ := bk4_ BK708.out) | ((with_reducible refine gate_callee (f := 29) rfl ?_); refine goesL_ (some 45) rfl rfl Tryz.func29 (by kernel_rfl) rfl #[.agg #[.string x709000_11, .int .i64 t713, .int .i64 t710, .string (rdOf ByteArray.empty t703 3)]] rfl argsS_ ?_; (with_reducible refine (impl_GoodRecord.calls kj11 x709000_11 t713 t710 (rdOf ByteArray.empty t703 3) true _ A29.out (hv_ := by refine Vars.below (Aside0.out (by assumption)) ?_; repeat (first | (with_reducible first | exact Below.refl _ _ | exact Aside0.out (by assumption) | apply below_alloc | apply pw_below_drewN | apply below_drew1 | refine below_set ?_ (Aside0.out (by assumption))) | exact Aside0.out (by assumption)))).mono ?_); rintro e w38 ⟨rfl, hb⟩; refine ⟨_, rfl, ?_⟩; replace HO_4 := a0_ (Kd.R_below (kR_ (Kd.R_mono (Kd.R_far (p := ⟨gb708, 1, none⟩) (Kd.R_types HO_4.out BK708.out (by decide)) (fun _ hk => hk.2) (.int .i64 t713)) (fun _ h_ => h_.1))) hb); replace BK702 := a0_ (blk_below (g := gb702) (o := .cells #[.string (⟨#[]⟩ : ByteArray), .int .i64 0, .int .i64 0, .string (⟨#[]⟩ : ByteArray)] 45 (0, 0)) bz_ hb); replace BK708 := a0_ (blk_below (g := gb708) (o := .cells #[.string x709000_11, .int .i64 t713, .int .i64 t710, .string (rdOf ByteArray.empty t703 3)] 45 (0, 0)) (by (with_reducible repeat (first | refine blk_drewN ?_ _ | refine blk_drew ?_ | refine blk_alloc ?_ _)); refine blk_put (cs := #[.string x709000_11, .int .i64 0, .int .i64 t710, .string (rdOf ByteArray.empty t703 3)]) ?_ 1 _ rfl; (with_reducible repeat (first | refine blk_drewN ?_ _ | refine blk_drew ?_ | refine blk_alloc ?_ _)); exact BK708.out) hb); replace HB := a0_ (below_step bq1_ hb); clear hb; obtain ⟨z39_0, z39_1, z39_2, z39_3, q39_0, q39_1, q39_2, q39_3⟩ := bk4_ BK708.out) | (go_at_call 81; (with_reducible refine (impl_recordText.calls x709000_11 t713 t710 (rdOf ByteArray.empty t703 3) t716 _ A31.out (hv_ := by refine Vars.below (Aside0.out (by assumption)) ?_; repeat (first | (with_reducible first | exact Below.refl _ _ | exact Aside0.out (by assumption) | apply below_alloc | apply pw_below_drewN | apply below_drew1 | refine below_set ?_ (Aside0.out (by assumption))) | exact Aside0.out (by assumption)))).mono ?_); rintro e w40 ⟨rfl, hb⟩; replace HO_4 := a0_ (Kd.R_below (kR_ HO_4.out) hb); replace BK702 := a0_ (bkB_ BK702 hb); replace BK708 := a0_ (bkB_ BK708 hb); replace HB := a0_ (below_step bq1_ hb); clear hb; obtain ⟨z41_0, z41_1, z41_2, z41_3, q41_0, q41_1, q41_2, q41_3⟩ := bk4_ BK708.out; obtain ⟨z42_0, z42_1, z42_2, z42_3, q42_0, q42_1, q42_2, q42_3⟩ := bk4_ BK702.out))
     refine bodyPost_ret (results_ct rfl _ _ gb702 45 #[.string x709000_11, .int .i64 t713, .int .i64 t710, .string (rdOf ByteArray.empty t703 3)] (0, 0) _ rfl (put4_ BK702.out) Tryz.underlying45 rfl (by kernel_rfl)) rfl ?_
     exact ⟨rr_, bq1_⟩
def impl_TargetOf.f (k : Nat) (a0_0 : ByteArray) (a0_1 : Int) (a0_2 : Int) (a0_3 : ByteArray) : Option (ByteArray × Bool) := (impl_GoodRecord.f k a0_0 a0_1 a0_2 a0_3).bind fun t722 => (if t722 = true then ((impl_targetOf.f k a0_0 a0_1 a0_2 a0_3).bind fun bt723 => (some (bt723.1, bt723.2))) else (some ((⟨#[]⟩ : ByteArray), false)))
set_option maxHeartbeats 8000000 in
set_option maxRecDepth 100000 in
theorem impl_TargetOf.calls (k : Nat) (a0_0 : ByteArray) (a0_1 : Int) (a0_2 : Int) (a0_3 : ByteArray) (r1 : ByteArray) (r2 : Bool) (w : World) (h : impl_TargetOf.f k a0_0 a0_1 a0_2 a0_3 = some (r1, r2)) (hv_ : Vars w := by exact vv_) :
 Calls Tryz.prog 32 #[.agg #[.string a0_0, .int .i64 a0_1, .int .i64 a0_2, .string a0_3]] w fun e w' => e = .returned (.tuple #[.string r1, .bool r2]) ∧ Below w.heap.size w w' := by
 have HV_ := a0_ hv_
 clear hv_
 have hu45 := Tryz.underlying45
 have HB := a0_ (Below.refl w.heap.size w)
 have H := h
 clear h
 unfold impl_TargetOf.f at H
 obtain ⟨t722, A20, H⟩ := Option.bind_eq_some_iff.mp H
 have A2 := a0_ A20
 clear A20
 by_cases c3 : t722 = true
 case neg =>
  replace c3 := Bool.eq_false_iff.mpr c3
  subst c3
  rw [if_neg (show ¬ (false = true) by decide)] at H
  simp only [Option.some.injEq, Prod.mk.injEq] at H
  obtain ⟨rfl, rfl⟩ := H
  go_enter Tryz.func32, Tryz.ntmps32
  go_wp2_with (first | ((with_reducible refine gate_dst (N := 1) rfl ?_); refine boxS_ 1 #[.string a0_0, .int .i64 a0_1, .int .i64 a0_2, .string a0_3] 45 (fun gb721 hg w10 hbox hb => ?_); have n0_ := a0_ (below_step bq0_ hb); have n1_ := a0_ (hbox); have n2_ := a0_ (gw_ hg : w.heap.size ≤ gb721); have n3_ := n2_; clear HB; have HB := n0_; have BK721 := n1_; have GW721 := n2_; have GE721 := n3_; clear n0_ n1_ n2_ n3_; clear hb hbox hg; obtain ⟨z11_0, z11_1, z11_2, z11_3, q11_0, q11_1, q11_2, q11_3⟩ := bk4_ BK721.out) | ((with_reducible refine gate_callee (f := 29) rfl ?_); refine goesL_ (some 5) rfl rfl Tryz.func29 (by kernel_rfl) rfl #[.agg #[.string a0_0, .int .i64 a0_1, .int .i64 a0_2, .string a0_3]] rfl argsS_ ?_; (with_reducible refine (impl_GoodRecord.calls k a0_0 a0_1 a0_2 a0_3 false _ A2.out).mono ?_); rintro e w12 ⟨rfl, hb⟩; refine ⟨_, rfl, ?_⟩; replace BK721 := a0_ (bkB_ BK721 hb); replace HB := a0_ (below_step bq1_ hb); clear hb))
  go_ret2
  exact ⟨rr_, bq1_⟩
 subst c3
 rw [if_pos rfl] at H
 obtain ⟨⟨t723, t724⟩, A40, H⟩ := Option.bind_eq_some_iff.mp H
 have A4 := a0_ A40
 clear A40
 simp only [Option.some.injEq, Prod.mk.injEq] at H
 obtain ⟨rfl, rfl⟩ := H
 go_enter Tryz.func32, Tryz.ntmps32
 go_wp2_with (first | ((with_reducible refine gate_dst (N := 1) rfl ?_); refine boxS_ 1 #[.string a0_0, .int .i64 a0_1, .int .i64 a0_2, .string a0_3] 45 (fun gb721 hg w5 hbox hb => ?_); have n0_ := a0_ (below_step bq0_ hb); have n1_ := a0_ (hbox); have n2_ := a0_ (gw_ hg : w.heap.size ≤ gb721); have n3_ := n2_; clear HB; have HB := n0_; have BK721 := n1_; have GW721 := n2_; have GE721 := n3_; clear n0_ n1_ n2_ n3_; clear hb hbox hg; obtain ⟨z6_0, z6_1, z6_2, z6_3, q6_0, q6_1, q6_2, q6_3⟩ := bk4_ BK721.out) | ((with_reducible refine gate_callee (f := 29) rfl ?_); refine goesL_ (some 5) rfl rfl Tryz.func29 (by kernel_rfl) rfl #[.agg #[.string a0_0, .int .i64 a0_1, .int .i64 a0_2, .string a0_3]] rfl argsS_ ?_; (with_reducible refine (impl_GoodRecord.calls k a0_0 a0_1 a0_2 a0_3 true _ A2.out).mono ?_); rintro e w7 ⟨rfl, hb⟩; refine ⟨_, rfl, ?_⟩; replace BK721 := a0_ (bkB_ BK721 hb); replace HB := a0_ (below_step bq1_ hb); clear hb; obtain ⟨z8_0, z8_1, z8_2, z8_3, q8_0, q8_1, q8_2, q8_3⟩ := bk4_ BK721.out) | ((with_reducible refine gate_callee (f := 95) rfl ?_); refine goesL_ (some 8) rfl rfl Tryz.func95 (by kernel_rfl) rfl #[.agg #[.string a0_0, .int .i64 a0_1, .int .i64 a0_2, .string a0_3]] rfl argsS_ ?_; (with_reducible refine (impl_targetOf.calls k a0_0 a0_1 a0_2 a0_3 t723 t724 _ A4.out).mono ?_); rintro e w9 ⟨rfl, hb⟩; refine ⟨_, rfl, ?_⟩; replace BK721 := a0_ (bkB_ BK721 hb); replace HB := a0_ (below_step bq1_ hb); clear hb))
 go_ret2
 exact ⟨rr_, bq1_⟩
end Go.Proofs.YtiegkjimpclmaaaGreatDoor.P
