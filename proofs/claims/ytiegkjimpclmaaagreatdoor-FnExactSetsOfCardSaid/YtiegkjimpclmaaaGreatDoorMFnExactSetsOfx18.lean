/- FnExactSetsOf: part 19 of 28 of my texts for this claim, joined; the theorem stands in the last. Conditions: none beyond the statement's. -/
import Derived.Test.YtiegkjimpclmaaaGreatDoorMFnExactSetsOfx17
namespace Go.Proofs.YtiegkjimpclmaaaGreatDoor.P
open Go.RowKit Go.Proofs.YtiegkjimpclmaaaGreatDoorW.PrintWords Go.Proofs.YtiegkjimpclmaaaGreatDoorW.PrintLast Go.Proofs.YtiegkjimpclmaaaGreatDoorW.PrintMore
attribute [local go_sem] max2_int min2_int max_two min_two max_three min_three max_four min_four
set_option linter.unusedVariables false
set_option linter.unusedSimpArgs false
attribute [local go_sem high] eqA45
mutual
def spec_l3Put.l0 : Nat → List (S45) → Int → ByteArray → Int → Int → ByteArray → Option ((List (S45)))
 | 0, _, _, _, _, _, _ => none
 | k + 1, x0, x5, x493000, x493001, x493002, x493003 => if x5 < (x0.length : Int) then (if 0 ≤ x5 then ((spec_l3Compare.f k ((rd_T45 x0 x5).f0) ((rd_T45 x0 x5).f1) ((rd_T45 x0 x5).f2) ((rd_T45 x0 x5).f3) x493000 x493001 x493002 x493003).bind fun t494 => (spec_l3Put.j1 k x0 x5 (decide (t494 < 0)) x493000 x493001 x493002 x493003)) else (none)) else (spec_l3Put.j1 k x0 x5 false x493000 x493001 x493002 x493003)
def spec_l3Put.j1 : Nat → List (S45) → Int → Bool → ByteArray → Int → Int → ByteArray → Option ((List (S45)))
 | 0, _, _, _, _, _, _, _ => none
 | k + 1, x0, x5, x19, x493000, x493001, x493002, x493003 => if x19 = true then (spec_l3Put.l0 k x0 (wrap64 (x5 + 1)) x493000 x493001 x493002 x493003) else (if x5 < (x0.length : Int) then (if 0 ≤ x5 then (spec_l3Put.j2 k x0 x5 ((((rd_T45 x0 x5).f0).toList) == x493000.toList && (((rd_T45 x0 x5).f1) == x493001 && (((rd_T45 x0 x5).f2) == x493002 && ((((rd_T45 x0 x5).f3).toList) == x493003.toList)))) x493000 x493001 x493002 x493003) else (none)) else (spec_l3Put.j2 k x0 x5 false x493000 x493001 x493002 x493003))
def spec_l3Put.j2 : Nat → List (S45) → Int → Bool → ByteArray → Int → Int → ByteArray → Option ((List (S45)))
 | 0, _, _, _, _, _, _, _ => none
 | k + 1, x0, x5, x33, x493000, x493001, x493002, x493003 => if x33 = true then (some x0) else (if 0 ≤ x5 then (if x5 ≤ (x0.length : Int) then ((some (x0.take (x5 : Int).toNat : List (S45))).bind fun y496 => (if ([] : List (S45)).length + y496.length < 2932031007402 then ((some (([] : List (S45)) ++ y496 : List (S45))).bind fun y500 => (if y500.length < 2932031007402 then ((some (y500 ++ [(⟨x493000, x493001, x493002, x493003⟩ : S45)] : List (S45))).bind fun y503 => ((some (x0.drop (x5 : Int).toNat : List (S45))).bind fun y506 => (if y503.length + y506.length < 2932031007402 then (some (y503 ++ y506)) else (none)))) else (none))) else (none))) else (none)) else (none))
end
def spec_l3Put.f (k : Nat) (l0 : List (S45)) (a1_0 : ByteArray) (a1_1 : Int) (a1_2 : Int) (a1_3 : ByteArray) : Option ((List (S45))) := spec_l3Put.l0 k l0 0 a1_0 a1_1 a1_2 a1_3
def spec_l3Put.T2 : Bool × List (List Nat × List Nat) := (true, [([], []), ([], []), ([1], [1]), ([0, 2], [0, 2]), ([3], [3]), ([4], [4]), ([4], [4]), ([5, 6, 4], [4, 5, 6]), ([7, 4], [4, 7]), ([4], [4]), ([8, 9, 4, 4], [4, 8, 9]), ([10, 4], [4, 10]), ([4, 11], [4, 11])])
def spec_l3Put.B2 : List Nat := [0, 0, 2, 7, 15, 31, 31, 127, 255, 31, 1023, 2047, 4095]
theorem spec_l3Put.tab2 : rtab .any (opsOf Tryz.f72 2) = spec_l3Put.T2 := by kernel_rfl
theorem spec_l3Put.bits2 : waitsOk spec_l3Put.T2.2 spec_l3Put.B2 = true := by kernel_rfl
def spec_l3Put.T4 : Bool × List (List Nat × List Nat) := (true, [([], []), ([], []), ([1], [1]), ([0, 2], [0, 2]), ([3], [3]), ([4], [4]), ([4], [4]), ([5, 6, 4], [4, 5, 6]), ([7, 4], [4, 7]), ([4], [4]), ([8, 9, 4], [4, 8, 9]), ([4, 10], [4, 10])])
def spec_l3Put.B4 : List Nat := [0, 0, 2, 7, 15, 31, 31, 127, 255, 31, 1023, 2047]
theorem spec_l3Put.tab4 : rtab .any (opsOf Tryz.f72 4) = spec_l3Put.T4 := by kernel_rfl
theorem spec_l3Put.bits4 : waitsOk spec_l3Put.T4.2 spec_l3Put.B4 = true := by kernel_rfl
set_option maxHeartbeats 8000000 in
set_option maxRecDepth 100000 in
theorem spec_l3Put.calls (k : Nat) (P0_ : Nat → Prop) (u9000_ : Value) (l0 : List (S45)) (a1_0 : ByteArray) (a1_1 : Int) (a1_2 : Int) (a1_3 : ByteArray) (r : List (S45)) (w0 w : World) (hB : Below w0.heap.size w0 w) (ho0 : Kd.R k45 45 w w0.heap.size P0_ u9000_ l0) (h : spec_l3Put.f k l0 a1_0 a1_1 a1_2 a1_3 = some r) :
 Calls Tryz.prog 72 #[u9000_, .agg #[.string a1_0, .int .i64 a1_1, .int .i64 a1_2, .string a1_3]] w fun e w' => ∃ v0_ : Value, e = .returned (v0_) ∧ Kd.R k45 45 w' w0.heap.size (fun k_ => (P0_ k_ ∨ w.heap.size ≤ k_)) v0_ r ∧ Below w0.heap.size w0 w' ∧ Kept w w' (fun k_ => P0_ k_) := by
 have hu45 := Tryz.underlying45
 have HO0 := a0_ (show Kd.R k45 45 w w0.heap.size (fun k_ => (P0_ k_ ∨ w.heap.size ≤ k_)) u9000_ l0 from Kd.R_mono ho0 (fun k_ hk => (.inl hk)))
 have HK := a0_ (Kept.refl w (fun k_ => P0_ k_))
 have HW0 := a0_ hB.size
 have HB := a0_ hB
 clear hB
 have H := h
 clear h
 unfold spec_l3Put.f at H
 have H' := a0_ H
 clear H
 go_enter Tryz.func72, Tryz.ntmps72
 go_wp2_with (first | ((with_reducible refine gate_dst (N := 3) rfl ?_); refine boxS_ 3 #[.string a1_0, .int .i64 a1_1, .int .i64 a1_2, .string a1_3] 45 (fun gb492 hg w3 hbox hb => ?_); have n0_ := a0_ (Kd.R_below (Kd.R_elderB (kR_ HO0.out) gb492 (Nat.le_of_eq hg.symm)) hb); have n1_ := a0_ (Kept.below (S := (fun k_ => P0_ k_)) (by repeat (first | (with_reducible first | exact HK.out | apply Kept.alloc | apply Kept.drewN | apply Kept.drew) | exact HK.out)) hb); have n2_ := a0_ (below_step bq0_ hb); have n3_ := a0_ (hbox); have n4_ := a0_ ((by rw [hg]; exact (by first | exact HK.out.1 | exact (show Kept w _ (fun k_ => P0_ k_) from by repeat (first | (with_reducible first | exact HK.out | apply Kept.alloc | apply Kept.drewN | apply Kept.drew) | exact HK.out)).1) : w.heap.size ≤ gb492)); have n5_ := a0_ ((by rw [hg]; exact (below_size bq0_) : w0.heap.size ≤ gb492)); clear HO0; clear HK; clear HB; have HO0 := n0_; have HK := n1_; have HB := n2_; have BK492 := n3_; have GW492 := n4_; have GE492 := n5_; clear n0_ n1_ n2_ n3_ n4_ n5_; clear hb hbox hg))
 go_loopg [5] k (fun kq v5 w' => ∃ (x5_1 : Int), v5 = .int .i64 x5_1 ∧ Aside0 (spec_l3Put.l0 kq l0 x5_1 a1_0 a1_1 a1_2 a1_3 = some r) ∧ Aside0 (kq ≤ k) ∧ Aside0 (Kd.R k45 45 w' w0.heap.size (fun k_ => (P0_ k_ ∨ w.heap.size ≤ k_) ∧ k_ ≠ gb492) u9000_ l0) ∧ Aside0 (w'.heap[gb492]? = some (.cells #[.string a1_0, .int .i64 a1_1, .int .i64 a1_2, .string a1_3] 45 (0, 0))) ∧ Aside0 (Kept w w' (fun k_ => P0_ k_)) ∧ Aside0 (Below w0.heap.size w0 w'))
 case atStart => exact ⟨(0), rs_, H', ⟨Nat.le_refl _⟩, ⟨by (with_reducible repeat (first | apply Kd.R_alloc | apply Kd.R_drewN | apply Kd.R_drew)); exact HO0.out⟩, ⟨bz_⟩, ⟨by repeat (first | (with_reducible first | exact HK.out | apply Kept.alloc | apply Kept.drewN | apply Kept.drew | refine Kept.setCell ?_ (.inr GW492.out) _) | exact HK.out)⟩, ⟨bq1_⟩⟩
 case round =>
  clear H'
  obtain ⟨x5_1, rfl, HA, HK1, HO_0, BK492, HK, HB⟩ := hrel
  cases gk with
  | zero => exact absurd HA.out (by simp [spec_l3Put.l0])
  | succ k1 =>
   have H := HA.out
   clear HA
   simp only [spec_l3Put.l0] at H
   have HC4 := a0_ H
   clear H
   go_upto_region 2 with (fail)
   go_cut [19] (fun v19 wc => ∃ (kq : Nat) (x19_3 : Bool), v19 = .bool x19_3 ∧ Aside0 (spec_l3Put.j1 kq l0 x5_1 x19_3 a1_0 a1_1 a1_2 a1_3 = some r) ∧ Aside0 (kq ≤ k1) ∧ Aside0 (Kd.R k45 45 wc w0.heap.size (fun k_ => (P0_ k_ ∨ w.heap.size ≤ k_) ∧ k_ ≠ gb492) u9000_ l0) ∧ Aside0 (wc.heap[gb492]? = some (.cells #[.string a1_0, .int .i64 a1_1, .int .i64 a1_2, .string a1_3] 45 (0, 0))) ∧ Aside0 (Kept w wc (fun k_ => P0_ k_)) ∧ Aside0 (Below w0.heap.size w0 wc))
   case first =>
    have H := HC4.out
    clear HC4
    by_cases c5 : x5_1 < (l0.length : Int)
    case neg =>
     rw [if_neg c5] at H
     have c5b0 := decide_eq_false c5
     clear c5
     (first | rw [c5b0] | (simp only [i64_w, i32_w]; rw [c5b0]) | skip)
     have H' := a0_ H
     clear H
     try go_wp2
     replace HO_0 := a0_ (Kd.R_drew HO_0.out)
     replace BK492 := a0_ (blk_drew BK492.out)
     replace HK := a0_ (Kept.drew HK.out)
     replace HB := a0_ (below_drew1 HB.out)
     obtain ⟨Ao12, co12, eo12⟩ := Kd.R_slice HO_0.out
     (first | subst eo12 | (injection eo12 with f1_ f2_ f3_; have f4_ := f1_.symm; have f5_ := f3_.symm; clear f1_ f2_ f3_; subst f4_; subst f5_))
     refine start_ (n := 13) (S := fun w' => True) (ds := []) #[false, false, false, false, false, false, false, false, false, false, false, false, false] (by kernel_rfl) rfl rfl trivial (fun hHeld => ?_); refine with_tabW spec_l3Put.tab2 spec_l3Put.bits2 (fun HT_ HW_ => ?_)
     generalize wr.drew = w11 at HO_0 BK492 HK HB hHeld ⊢
     refine pureS_ 0 (some 7) ?_
     refine pureS_ 1 (some 8) ?_
     refine pureS_ 2 (some 9) ?_
     refine pureS_ 3 (some 10) ?_
     refine pureS_ 4 (some 11) ?_
     refine skipS_ 5 (some 12) ?_
     refine skipS_ 6 (some 13) ?_
     refine skipS_ 7 (some 14) ?_
     refine skipS_ 8 (some 15) ?_
     refine skipS_ 9 (some 16) ?_
     refine skipS_ 10 (some 17) ?_
     refine skipS_ 11 (some 18) ?_
     refine pureS_ 12 (some 19) ?_
     refine done_ (done_of HT_.out (by kernel_rfl)) ?_
     try go_wp2
     go_meet
     case rel => exact ⟨_, (false), rs_, H', ⟨by have := HK1.out; first | omega | exact Nat.le_refl _⟩, ⟨by (with_reducible repeat (first | apply Kd.R_alloc | apply Kd.R_drewN | apply Kd.R_drew)); exact HO_0.out⟩, ⟨bz_⟩, ⟨by repeat (first | (with_reducible first | exact HK.out | apply Kept.alloc | apply Kept.drewN | apply Kept.drew | refine Kept.setCell ?_ (.inr GW492.out) _) | exact HK.out)⟩, ⟨bq1_⟩⟩
    rw [if_pos c5] at H
    have c5b0 := decide_eq_true c5
    clear c5
    (first | rw [c5b0] | (simp only [i64_w, i32_w]; rw [c5b0]) | skip)
    by_cases c6 : 0 ≤ x5_1
    case neg =>
     rw [if_neg c6] at H
     exact absurd H (by simp)
    rw [if_pos c6] at H
    have c6b0 := decide_eq_true c6
    clear c6
    obtain ⟨t494, A70, H⟩ := Option.bind_eq_some_iff.mp H
    have A7 := a0_ A70
    clear A70
    have H' := a0_ H
    clear H
    try go_wp2
    replace HO_0 := a0_ (Kd.R_drew HO_0.out)
    replace BK492 := a0_ (blk_drew BK492.out)
    replace HK := a0_ (Kept.drew HK.out)
    replace HB := a0_ (below_drew1 HB.out)
    obtain ⟨Ao9, co9, eo9⟩ := Kd.R_slice HO_0.out
    (first | subst eo9 | (injection eo9 with f1_ f2_ f3_; have f4_ := f1_.symm; have f5_ := f3_.symm; clear f1_ f2_ f3_; subst f4_; subst f5_))
    have p493 : 0 ≤ (x5_1 : Int) := dec_
    have q493 : x5_1 < (l0.length : Int) := dec_
    obtain ⟨ad493, e493, hx493_0, hx493_1, hx493_2, hx493_3⟩ := at_T45 (Kd.R_reads' HO_0.out).2.2 x5_1 p493 q493
    cases e493
    replace p493 := eq_true p493
    replace q493 := eq_true q493
    refine start_ (n := 13) (S := fun w' => w'.cell? ⟨gb492, 0, none⟩ = some (.string a1_0) ∧ w'.cell? ⟨gb492, 1, none⟩ = some (.int .i64 a1_1) ∧ w'.cell? ⟨gb492, 2, none⟩ = some (.int .i64 a1_2) ∧ w'.cell? ⟨gb492, 3, none⟩ = some (.string a1_3) ∧ w'.cell? (ad493.add ((x5_1).toNat * 4)) = some (.string ((rd_T45 l0 x5_1).f0)) ∧ w'.cell? ⟨(ad493.add ((x5_1).toNat * 4)).block, (ad493.add ((x5_1).toNat * 4)).off + 1, none⟩ = some (.int .i64 ((rd_T45 l0 x5_1).f1)) ∧ w'.cell? ⟨(ad493.add ((x5_1).toNat * 4)).block, (ad493.add ((x5_1).toNat * 4)).off + 2, none⟩ = some (.int .i64 ((rd_T45 l0 x5_1).f2)) ∧ w'.cell? ⟨(ad493.add ((x5_1).toNat * 4)).block, (ad493.add ((x5_1).toNat * 4)).off + 3, none⟩ = some (.string ((rd_T45 l0 x5_1).f3))) (ds := []) #[false, false, false, false, false, false, false, false, false, false, false, false, false] (by kernel_rfl) rfl rfl ⟨(blk_cell BK492.out 0).trans rfl, (blk_cell BK492.out 1).trans rfl, (blk_cell BK492.out 2).trans rfl, (blk_cell BK492.out 3).trans rfl, hx493_0, hx493_1, hx493_2, hx493_3⟩ (fun hHeld => ?_); refine with_tabW spec_l3Put.tab2 spec_l3Put.bits2 (fun HT_ HW_ => ?_)
    generalize wr.drew = w8 at HO_0 BK492 HK HB hx493_0 hx493_1 hx493_2 hx493_3 hHeld ⊢
    refine pureS_ 0 (some 7) ?_
    refine pureS_ 1 (some 8) ?_
    refine pureS_ 2 (some 9) ?_
    refine pureS_ 3 (some 10) ?_
    refine pureS_ 4 (some 11) ?_
    refine pureS_ 5 (some 12) ?_
    refine pureS_ 6 (some 13) ?_
    refine pureS_ 7 (some 14) ?_
    refine takeS_ 8 (some 15) ?_
    refine takeS_ 9 (some 16) ?_
    refine oneS_ 10 (some 17) (fun K hK => ?_)
    refine goes_ Tryz.func62 (by kernel_rfl) rfl #[.agg #[.string ((rd_T45 l0 x5_1).f0), .int .i64 ((rd_T45 l0 x5_1).f1), .int .i64 ((rd_T45 l0 x5_1).f2), .string ((rd_T45 l0 x5_1).f3)], .agg #[.string a1_0, .int .i64 a1_1, .int .i64 a1_2, .string a1_3]] (by rfl) rfl rfl argsS_ ?_
    with_reducible refine (spec_l3Compare.calls k1 ((rd_T45 l0 x5_1).f0) ((rd_T45 l0 x5_1).f1) ((rd_T45 l0 x5_1).f2) ((rd_T45 l0 x5_1).f3) a1_0 a1_1 a1_2 a1_3 t494 _ A7.out).mono ?_
    rintro e w10 ⟨rfl, hb⟩
    have HS4_ := (hb.cell (World.block_lt_of_cell? _ _ (hHeld.2.2.2.2.1))).trans (hHeld.2.2.2.2.1)
    have HS5_ := (hb.cell (World.block_lt_of_cell? _ _ (hHeld.2.2.2.2.2.1))).trans (hHeld.2.2.2.2.2.1)
    have HS6_ := (hb.cell (World.block_lt_of_cell? _ _ (hHeld.2.2.2.2.2.2.1))).trans (hHeld.2.2.2.2.2.2.1)
    have HS7_ := (hb.cell (World.block_lt_of_cell? _ _ (hHeld.2.2.2.2.2.2.2))).trans (hHeld.2.2.2.2.2.2.2)
    refine ⟨_, rfl, ?_⟩
    replace HO_0 := a0_ (Kd.R_below (kR_ HO_0.out) hb)
    replace BK492 := a0_ (bkB_ BK492 hb)
    replace HK := a0_ (Kept.below (S := (fun k_ => P0_ k_)) (by repeat (first | (with_reducible first | exact HK.out | apply Kept.alloc | apply Kept.drewN | apply Kept.drew | refine Kept.setCell ?_ (.inr GW492.out) _) | exact HK.out)) hb)
    replace HB := a0_ (below_step bq1_ hb)
    (try clear hb)
    (try clear hb2)
    (try clear hk)
    (try clear hi)
    refine hK.out _ _ ⟨(blk_cell BK492.out 0).trans rfl, (blk_cell BK492.out 1).trans rfl, (blk_cell BK492.out 2).trans rfl, (blk_cell BK492.out 3).trans rfl, HS4_, HS5_, HS6_, HS7_⟩ (fun hHeld => ?_)
    clear hK K
    refine normS_ ?_
    refine pureS_ 11 (some 18) ?_
    refine pureS_ 12 (some 19) ?_
    refine done_ (done_of HT_.out (by kernel_rfl)) ?_
    try go_wp2
    go_meet
    case rel => exact ⟨_, (decide (t494 < 0)), rs_, H', ⟨by have := HK1.out; first | omega | exact Nat.le_refl _⟩, ⟨by (with_reducible repeat (first | apply Kd.R_alloc | apply Kd.R_drewN | apply Kd.R_drew)); exact HO_0.out⟩, ⟨bz_⟩, ⟨by repeat (first | (with_reducible first | exact HK.out | apply Kept.alloc | apply Kept.drewN | apply Kept.drew | refine Kept.setCell ?_ (.inr GW492.out) _) | exact HK.out)⟩, ⟨bq1_⟩⟩
   case rest =>
    clear HC4
    try clear p2
    try clear p2
    obtain ⟨kq, x19_3, rfl, HA, HJ3, HO_0, BK492, HK, HB⟩ := hcut
    cases kq with
    | zero => exact absurd HA.out (by simp [spec_l3Put.j1])
    | succ kj3 =>
     have H := HA.out
     clear HA
     simp only [spec_l3Put.j1] at H
     by_cases c13 : x19_3 = true
     case pos =>
      subst c13
      rw [if_pos rfl] at H
      have H' := a0_ H
      clear H
      go_wp2
      go_roundg kj3
      case measure => have := HK1.out; have := HJ3.out; omega
      case rel => exact ⟨(wrap64 (x5_1 + 1)), rs_, H', ⟨by have := HK1.out; have := HJ3.out; omega⟩, ⟨by (with_reducible repeat (first | apply Kd.R_alloc | apply Kd.R_drewN | apply Kd.R_drew)); exact HO_0.out⟩, ⟨bz_⟩, ⟨by repeat (first | (with_reducible first | exact HK.out | apply Kept.alloc | apply Kept.drewN | apply Kept.drew | refine Kept.setCell ?_ (.inr GW492.out) _) | exact HK.out)⟩, ⟨bq1_⟩⟩
     replace c13 := Bool.eq_false_iff.mpr c13
     subst c13
     rw [if_neg (show ¬ (false = true) by decide)] at H
     have HC14 := a0_ H
     clear H
     go_upto_region 4 with (fail)
     go_cut [33] (fun v33 wc => ∃ (kq : Nat) (x33_13 : Bool), v33 = .bool x33_13 ∧ Aside0 (spec_l3Put.j2 kq l0 x5_1 x33_13 a1_0 a1_1 a1_2 a1_3 = some r) ∧ Aside0 (kq ≤ kj3) ∧ Aside0 (Kd.R k45 45 wc w0.heap.size (fun k_ => (P0_ k_ ∨ w.heap.size ≤ k_) ∧ k_ ≠ gb492) u9000_ l0) ∧ Aside0 (wc.heap[gb492]? = some (.cells #[.string a1_0, .int .i64 a1_1, .int .i64 a1_2, .string a1_3] 45 (0, 0))) ∧ Aside0 (Kept w wc (fun k_ => P0_ k_)) ∧ Aside0 (Below w0.heap.size w0 wc))
     case first =>
      have H := HC14.out
      clear HC14
      by_cases c15 : x5_1 < (l0.length : Int)
      case neg =>
       rw [if_neg c15] at H
       have c15b0 := decide_eq_false c15
       clear c15
       (first | rw [c15b0] | (simp only [i64_w, i32_w]; rw [c15b0]) | skip)
       have H' := a0_ H
       clear H
       try go_wp2
       replace HO_0 := a0_ (Kd.R_drew HO_0.out)
       replace BK492 := a0_ (blk_drew BK492.out)
       replace HK := a0_ (Kept.drew HK.out)
       replace HB := a0_ (below_drew1 HB.out)
       obtain ⟨Ao20, co20, eo20⟩ := Kd.R_slice HO_0.out
       (first | subst eo20 | (injection eo20 with f1_ f2_ f3_; have f4_ := f1_.symm; have f5_ := f3_.symm; clear f1_ f2_ f3_; subst f4_; subst f5_))
       refine start_ (n := 12) (S := fun w' => True) (ds := []) #[false, false, false, false, false, false, false, false, false, false, false, false] (by kernel_rfl) rfl rfl trivial (fun hHeld => ?_); refine with_tabW spec_l3Put.tab4 spec_l3Put.bits4 (fun HT_ HW_ => ?_)
       generalize wc.drew = w19 at HO_0 BK492 HK HB hHeld ⊢
       refine pureS_ 0 (some 22) ?_
       refine pureS_ 1 (some 23) ?_
       refine pureS_ 2 (some 24) ?_
       refine pureS_ 3 (some 25) ?_
       refine pureS_ 4 (some 26) ?_
       refine skipS_ 5 (some 27) ?_
       refine skipS_ 6 (some 28) ?_
       refine skipS_ 7 (some 29) ?_
       refine skipS_ 8 (some 30) ?_
       refine skipS_ 9 (some 31) ?_
       refine skipS_ 10 (some 32) ?_
       refine pureS_ 11 (some 33) ?_
       refine done_ (done_of HT_.out (by kernel_rfl)) ?_
       try go_wp2
       go_meet
       case rel => exact ⟨_, (false), rs_, H', ⟨by have := HK1.out; have := HJ3.out; first | omega | exact Nat.le_refl _⟩, ⟨by (with_reducible repeat (first | apply Kd.R_alloc | apply Kd.R_drewN | apply Kd.R_drew)); exact HO_0.out⟩, ⟨bz_⟩, ⟨by repeat (first | (with_reducible first | exact HK.out | apply Kept.alloc | apply Kept.drewN | apply Kept.drew | refine Kept.setCell ?_ (.inr GW492.out) _) | exact HK.out)⟩, ⟨bq1_⟩⟩
      rw [if_pos c15] at H
      have c15b0 := decide_eq_true c15
      clear c15
      (first | rw [c15b0] | (simp only [i64_w, i32_w]; rw [c15b0]) | skip)
      by_cases c16 : 0 ≤ x5_1
      case neg =>
       rw [if_neg c16] at H
       exact absurd H (by simp)
      rw [if_pos c16] at H
      have c16b0 := decide_eq_true c16
      clear c16
      have H' := a0_ H
      clear H
      try go_wp2
      replace HO_0 := a0_ (Kd.R_drew HO_0.out)
      replace BK492 := a0_ (blk_drew BK492.out)
      replace HK := a0_ (Kept.drew HK.out)
      replace HB := a0_ (below_drew1 HB.out)
      obtain ⟨Ao18, co18, eo18⟩ := Kd.R_slice HO_0.out
      (first | subst eo18 | (injection eo18 with f1_ f2_ f3_; have f4_ := f1_.symm; have f5_ := f3_.symm; clear f1_ f2_ f3_; subst f4_; subst f5_))
      have p495 : 0 ≤ (x5_1 : Int) := dec_
      have q495 : x5_1 < (l0.length : Int) := dec_
      obtain ⟨ad495, e495, hx495_0, hx495_1, hx495_2, hx495_3⟩ := at_T45 (Kd.R_reads' HO_0.out).2.2 x5_1 p495 q495
      cases e495
      replace p495 := eq_true p495
      replace q495 := eq_true q495
      refine start_ (n := 12) (S := fun w' => w'.cell? ⟨gb492, 0, none⟩ = some (.string a1_0) ∧ w'.cell? ⟨gb492, 1, none⟩ = some (.int .i64 a1_1) ∧ w'.cell? ⟨gb492, 2, none⟩ = some (.int .i64 a1_2) ∧ w'.cell? ⟨gb492, 3, none⟩ = some (.string a1_3) ∧ w'.cell? (ad495.add ((x5_1).toNat * 4)) = some (.string ((rd_T45 l0 x5_1).f0)) ∧ w'.cell? ⟨(ad495.add ((x5_1).toNat * 4)).block, (ad495.add ((x5_1).toNat * 4)).off + 1, none⟩ = some (.int .i64 ((rd_T45 l0 x5_1).f1)) ∧ w'.cell? ⟨(ad495.add ((x5_1).toNat * 4)).block, (ad495.add ((x5_1).toNat * 4)).off + 2, none⟩ = some (.int .i64 ((rd_T45 l0 x5_1).f2)) ∧ w'.cell? ⟨(ad495.add ((x5_1).toNat * 4)).block, (ad495.add ((x5_1).toNat * 4)).off + 3, none⟩ = some (.string ((rd_T45 l0 x5_1).f3))) (ds := []) #[false, false, false, false, false, false, false, false, false, false, false, false] (by kernel_rfl) rfl rfl ⟨(blk_cell BK492.out 0).trans rfl, (blk_cell BK492.out 1).trans rfl, (blk_cell BK492.out 2).trans rfl, (blk_cell BK492.out 3).trans rfl, hx495_0, hx495_1, hx495_2, hx495_3⟩ (fun hHeld => ?_); refine with_tabW spec_l3Put.tab4 spec_l3Put.bits4 (fun HT_ HW_ => ?_)
      generalize wc.drew = w17 at HO_0 BK492 HK HB hx495_0 hx495_1 hx495_2 hx495_3 hHeld ⊢
      refine pureS_ 0 (some 22) ?_
      refine pureS_ 1 (some 23) ?_
      refine pureS_ 2 (some 24) ?_
      refine pureS_ 3 (some 25) ?_
      refine pureS_ 4 (some 26) ?_
      refine pureS_ 5 (some 27) ?_
      refine pureS_ 6 (some 28) ?_
      refine pureS_ 7 (some 29) ?_
      refine takeS_ 8 (some 30) ?_
      refine takeS_ 9 (some 31) ?_
      refine pureS_ 10 (some 32) ?_
      refine pureS_ 11 (some 33) ?_
      refine done_ (done_of HT_.out (by kernel_rfl)) ?_
      try go_wp2
      go_meet
      case rel => exact ⟨_, (((((rd_T45 l0 x5_1).f0).toList) == a1_0.toList && (((rd_T45 l0 x5_1).f1) == a1_1 && (((rd_T45 l0 x5_1).f2) == a1_2 && ((((rd_T45 l0 x5_1).f3).toList) == a1_3.toList))))), rs_, H', ⟨by have := HK1.out; have := HJ3.out; first | omega | exact Nat.le_refl _⟩, ⟨by (with_reducible repeat (first | apply Kd.R_alloc | apply Kd.R_drewN | apply Kd.R_drew)); exact HO_0.out⟩, ⟨bz_⟩, ⟨by repeat (first | (with_reducible first | exact HK.out | apply Kept.alloc | apply Kept.drewN | apply Kept.drew | refine Kept.setCell ?_ (.inr GW492.out) _) | exact HK.out)⟩, ⟨bq1_⟩⟩
     case rest =>
      clear HC14
      try clear p2
      try clear p4
      try clear q4
      try clear hx4
      try clear c5
      try clear c5b0
      try clear c6
      try clear c6b0
      try clear c7
      try clear c13
      try clear hx493_0
      try clear hx493_1
      try clear hx493_2
      try clear hx493_3
      try clear p2
      try clear p4
      try clear p493
      try clear q4
      try clear q493
      obtain ⟨kq, x33_13, rfl, HA, HJ13, HO_0, BK492, HK, HB⟩ := hcut
      cases kq with
      | zero => exact absurd HA.out (by simp [spec_l3Put.j2])
      | succ kj13 =>
       have H := HA.out
       clear HA
       simp only [spec_l3Put.j2] at H
       by_cases c21 : x33_13 = true
       case pos =>
        subst c21
        rw [if_pos rfl] at H
        obtain rfl := Option.some.inj H
        go_wp2
        go_ret
        exact ⟨_, rr_, by (with_reducible repeat (first | apply Kd.R_alloc | apply Kd.R_drewN | apply Kd.R_drew)); exact Kd.R_mono HO_0.out (fun _ hk => hk.1), bq1_, by repeat (first | (with_reducible first | exact HK.out | apply Kept.alloc | apply Kept.drewN | apply Kept.drew | refine Kept.setCell ?_ (.inr GW492.out) _) | exact HK.out)⟩
       replace c21 := Bool.eq_false_iff.mpr c21
       subst c21
       rw [if_neg (show ¬ (false = true) by decide)] at H
       by_cases c22 : 0 ≤ x5_1
       case neg =>
        rw [if_neg c22] at H
        exact absurd H (by simp)
       rw [if_pos c22] at H
       have c22b0 := eq_true c22
       have c22b1 := decide_eq_true c22
       clear c22
       by_cases c23 : x5_1 ≤ (l0.length : Int)
       case neg =>
        rw [if_neg c23] at H
        exact absurd H (by simp)
       rw [if_pos c23] at H
       have c23b0 := eq_true c23
       have c23b1 := decide_eq_true c23
       clear c23
       obtain ⟨y496, hy496⟩ : ∃ y_ : List (S45), y_ = (l0.take (x5_1 : Int).toNat) := ⟨_, rfl⟩
       replace H : (if ([] : List (S45)).length + y496.length < 2932031007402 then ((some (([] : List (S45)) ++ y496 : List (S45))).bind fun y500 => (if y500.length < 2932031007402 then ((some (y500 ++ [(⟨a1_0, a1_1, a1_2, a1_3⟩ : S45)] : List (S45))).bind fun y503 => ((some (l0.drop (x5_1 : Int).toNat : List (S45))).bind fun y506 => (if y503.length + y506.length < 2932031007402 then (some (y503 ++ y506)) else (none)))) else (none))) else (none)) = some r := by first | (rw [hy496]; with_reducible exact H) | (have H2_ := (Option.bind_some _ _).symm.trans H; rw [hy496]; with_reducible exact H2_) | (have H2_ := (Option.bind_some _ _).symm.trans H; with_reducible exact H2_) | with_reducible exact H | (rw [hy496]; exact H) | exact H
       have Ny496 := a0_ hy496
       clear hy496
       by_cases c24 : ([] : List (S45)).length + y496.length < 2932031007402
       case neg =>
        rw [if_neg c24] at H
        exact absurd H (by simp)
       rw [if_pos c24] at H
       have LMc24 := a0_ c24
       clear c24
       obtain ⟨y500, hy500⟩ : ∃ y_ : List (S45), y_ = (([] : List (S45)) ++ y496) := ⟨_, rfl⟩
       replace H : (if y500.length < 2932031007402 then ((some (y500 ++ [(⟨a1_0, a1_1, a1_2, a1_3⟩ : S45)] : List (S45))).bind fun y503 => ((some (l0.drop (x5_1 : Int).toNat : List (S45))).bind fun y506 => (if y503.length + y506.length < 2932031007402 then (some (y503 ++ y506)) else (none)))) else (none)) = some r := by first | (rw [hy500]; with_reducible exact H) | (have H2_ := (Option.bind_some _ _).symm.trans H; rw [hy500]; with_reducible exact H2_) | (have H2_ := (Option.bind_some _ _).symm.trans H; with_reducible exact H2_) | with_reducible exact H | (rw [hy500]; exact H) | exact H
       have Ny500 := a0_ hy500
       clear hy500
       by_cases c25 : y500.length < 2932031007402
       case neg =>
        rw [if_neg c25] at H
        exact absurd H (by simp)
       rw [if_pos c25] at H
       have LMc25 := a0_ c25
       clear c25
       obtain ⟨y503, hy503⟩ : ∃ y_ : List (S45), y_ = (y500 ++ [(⟨a1_0, a1_1, a1_2, a1_3⟩ : S45)]) := ⟨_, rfl⟩
       replace H : ((some (l0.drop (x5_1 : Int).toNat : List (S45))).bind fun y506 => (if y503.length + y506.length < 2932031007402 then (some (y503 ++ y506)) else (none))) = some r := by first | (rw [hy503]; with_reducible exact H) | (have H2_ := (Option.bind_some _ _).symm.trans H; rw [hy503]; with_reducible exact H2_) | (have H2_ := (Option.bind_some _ _).symm.trans H; with_reducible exact H2_) | with_reducible exact H | (rw [hy503]; exact H) | exact H
       have Ny503 := a0_ hy503
       clear hy503
       have c26b0 := eq_true (dec_ : 0 ≤ x5_1)
       have c27b0 := eq_true (dec_ : x5_1 ≤ (l0.length : Int))
       obtain ⟨y506, hy506⟩ : ∃ y_ : List (S45), y_ = (l0.drop (x5_1 : Int).toNat) := ⟨_, rfl⟩
       replace H : (if y503.length + y506.length < 2932031007402 then (some (y503 ++ y506)) else (none)) = some r := by first | (rw [hy506]; with_reducible exact H) | (have H2_ := (Option.bind_some _ _).symm.trans H; rw [hy506]; with_reducible exact H2_) | (have H2_ := (Option.bind_some _ _).symm.trans H; with_reducible exact H2_) | with_reducible exact H | (rw [hy506]; exact H) | exact H
       have Ny506 := a0_ hy506
       clear hy506
       by_cases c28 : y503.length + y506.length < 2932031007402
       case neg =>
        rw [if_neg c28] at H
        exact absurd H (by simp)
       rw [if_pos c28] at H
       have LMc28 := a0_ c28
       clear c28
       obtain ⟨y510, hy510⟩ : ∃ y_ : List (S45), y_ = (y503 ++ y506) := ⟨_, rfl⟩
       replace H : (some y510) = some r := by first | (rw [hy510]; with_reducible exact H) | (have H2_ := (Option.bind_some _ _).symm.trans H; rw [hy510]; with_reducible exact H2_) | (have H2_ := (Option.bind_some _ _).symm.trans H; with_reducible exact H2_) | with_reducible exact H | (rw [hy510]; exact H) | exact H
       have Ny510 := a0_ hy510
       clear hy510
       obtain rfl := Option.some.inj H
       obtain ⟨Ao30, co30, eo30⟩ := Kd.R_slice HO_0.out
       subst eo30
       have q29 : (x5_1 : Int) ≤ ((l0.length : Int) : Int) := dec_
       obtain ⟨i029, hi029, _, hsz29, _⟩ := info_parts info45
       have hroom29 : l0.length ≤ co30 := (Kd.R_reads' HO_0.out).2.1
       have hC29 : Kd.C k45 _ Ao30 l0.length l0 := (Kd.R_reads' HO_0.out).2.2
       have hcut29 := cut_to (P := Tryz.prog) 27 45 .i64 Tryz.underlying27 hi029 Ao30 l0.length co30 x5_1 (dec_) q29 hroom29
       have hr29 := Kd.C_take (m := (x5_1 : Int).toNat) hC29 (by omega)
       have hy29 : y496.length = (x5_1 : Int).toNat := (by rw [Ny496.out, List.length_take]; omega)
       rw [← Ny496.out] at hr29
       rw [← hy29] at hcut29
       have HR499 := a0_ hr29
       have HC499 := a0_ (show y496.length ≤ co30 from by omega)
       clear hr29 hC29 hroom29 hi029 hsz29
       have KY29 := a0_ hy29
       clear hy29
       have KL29 := a0_ (show (x5_1 : Int).toNat ≤ l0.length from by omega)
       replace q29 := eq_true q29
       go_wp2_with (first | ((with_reducible refine gate_builtin (b := .append) (xs := #[.tmp 35, .tmp 38]) rfl ?_); at_builtin; refine Kd.R_append_rows k45 (w0 := w0) w0.heap.size rfl (.tmp 35) (.tmp 38) 27 45 (.agg #[(.string ⟨#[]⟩), (.int .i64 0), (.int .i64 0), (.string ⟨#[]⟩)]) 48 rfl Tryz.underlying27 info45 rfl (by decide) (by omega) (.slice none 0 0) ([] : List (S45)) y496 _ _ _ (fun k_ => (P0_ k_ ∨ w.heap.size ≤ k_) ∧ nw_ k_ Ao30 l0.length co30 ∧ k_ ≠ gb492) (fun _ => False) rfl rfl ?aO ?aR (fun _ _ h => h) (fun _ h => h.elim) ?aF ?aB ?aS ?aL ?_; (case aR => repeat (first | exact (by repeat (first | (with_reducible exact HR499.out) | (with_reducible refine Kd.C_alloc ?_ _) | (with_reducible refine Kd.C_drewN ?_ _) | (with_reducible refine Kd.C_drew ?_) | exact HR499.out)) | (with_reducible refine Kd.C_alloc ?_ _) | (with_reducible refine Kd.C_drewN ?_ _) | (with_reducible refine Kd.C_drew ?_))); (case aB => exact bq1_); (case aF => exact (fun k_ hk => ⟨(.inr (Nat.le_trans (by first | exact HK.out.1 | exact (show Kept w _ (fun k_ => P0_ k_) from by repeat (first | (with_reducible first | exact HK.out | apply Kept.alloc | apply Kept.drewN | apply Kept.drew | refine Kept.setCell ?_ (.inr GW492.out) _) | exact HK.out)).1) hk)), Kd.fresh' (Kd.R_lt (kR_ HO_0.out)) k_ hk, Kd.freshB (g := gb492) (o := .cells #[.string a1_0, .int .i64 a1_1, .int .i64 a1_2, .string a1_3] 45 (0, 0)) (kB_ BK492.out) k_ hk⟩)); (case aO => exact ((Kd.R_nil _ _ _ _ (fun k_ => (P0_ k_ ∨ w.heap.size ≤ k_) ∧ nw_ k_ Ao30 l0.length co30 ∧ k_ ≠ gb492)))); (case aS => exact (below_size bq1_)); (case aL => have := LMc24.out; omega); intro v501 w31 ho hb hg hat; rw [← Ny500.out] at ho; have n0_ := a0_ (Kd.R_after (Kd.R_apart_nil (kR_ HO_0.out)) hg hat); have n1_ := a0_ (blk_grown (g := gb492) (o := .cells #[.string a1_0, .int .i64 a1_1, .int .i64 a1_2, .string a1_3] 45 (0, 0)) (kB_ BK492.out) hg (by simp [Value.ownBlock])); have n2_ := a0_ (hb); have n3_ := a0_ (Kept.of_grown (S := (fun k_ => P0_ k_)) hg (by repeat (first | (with_reducible first | exact HK.out | apply Kept.alloc | apply Kept.drewN | apply Kept.drew | refine Kept.setCell ?_ (.inr GW492.out) _) | exact HK.out)) (fun k_ e_ => by simp [Value.ownBlock] at e_)); have n4_ := a0_ ((show Kd.C k45 w31 Ao30 y496.length y496 from by rw [Ny496.out]; exact Kd.C_take (m := (x5_1 : Int).toNat) ((Kd.R_reads' (Kd.R_after (Kd.R_apart_nil (kR_ HO_0.out)) hg hat)).2.2) KL29.out)); have n5_ := a0_ (ho); clear HO_0; clear BK492; clear HB; clear HK; clear HR499; have HO_0 := n0_; have BK492 := n1_; have HB := n2_; have HK := n3_; have HR499 := n4_; have HO502 := n5_; clear n0_ n1_ n2_ n3_ n4_ n5_; clear ho hb hg hat; obtain ⟨z32_0, z32_1, z32_2, z32_3, q32_0, q32_1, q32_2, q32_3⟩ := bk4_ BK492.out) | ((with_reducible refine gate_builtin (b := .append) (xs := #[.tmp 40, .tmp 42]) rfl ?_); at_builtin; refine Kd.R_append k45 (w0 := w0) w0.heap.size rfl (.tmp 40) (.tmp 42) 27 45 (.agg #[(.string ⟨#[]⟩), (.int .i64 0), (.int .i64 0), (.string ⟨#[]⟩)]) 48 rfl Tryz.underlying27 info45 rfl (by decide) (by omega) v501 y500 (⟨a1_0, a1_1, a1_2, a1_3⟩ : S45) [.string a1_0, .int .i64 a1_1, .int .i64 a1_2, .string a1_3] (fun k_ => (P0_ k_ ∨ w.heap.size ≤ k_) ∧ nw_ k_ Ao30 l0.length co30 ∧ k_ ≠ gb492) (fun _ => False) rfl rfl ?aP (fun _ hk => hk.elim) ?aF ?aO ?aB ?aS ?aL ?_; (case aP => exact k45_mkM _ _ _ (⟨a1_0, a1_1, a1_2, a1_3⟩ : S45)); (case aB => exact bq1_); (case aF => exact (fun k_ hk => ⟨(.inr (Nat.le_trans (by first | exact HK.out.1 | exact (show Kept w _ (fun k_ => P0_ k_) from by repeat (first | (with_reducible first | exact HK.out | apply Kept.alloc | apply Kept.drewN | apply Kept.drew | refine Kept.setCell ?_ (.inr GW492.out) _) | exact HK.out)).1) hk)), Kd.fresh' (Kd.R_lt (kR_ HO_0.out)) k_ hk, Kd.freshB (g := gb492) (o := .cells #[.string a1_0, .int .i64 a1_1, .int .i64 a1_2, .string a1_3] 45 (0, 0)) (kB_ BK492.out) k_ hk⟩)); (case aO => exact (kR_ HO502.out)); (case aS => exact (below_size bq1_)); (case aL => have := LMc25.out; omega); intro v504 w33 ho hb hg hat; rw [← Ny503.out] at ho; have n0_ := a0_ (Kd.R_after (ok := (fun k_ => (P0_ k_ ∨ w.heap.size ≤ k_) ∧ k_ ≠ gb492)) (kR_ HO_0.out) hg hat); have n1_ := a0_ (blk_grown (g := gb492) (o := .cells #[.string a1_0, .int .i64 a1_1, .int .i64 a1_2, .string a1_3] 45 (0, 0)) (kB_ BK492.out) hg (Kd.R_away HO502.out (fun _ hk => hk.2.2))); have n2_ := a0_ (hb); have n3_ := a0_ (Kept.of_grown (S := (fun k_ => P0_ k_)) hg (by repeat (first | (with_reducible first | exact HK.out | apply Kept.alloc | apply Kept.drewN | apply Kept.drew | refine Kept.setCell ?_ (.inr GW492.out) _) | exact HK.out)) (fun k_ e_ => (HO502.out.1 k_ e_).1)); have n4_ := a0_ ((show Kd.C k45 w33 Ao30 y496.length y496 from by rw [Ny496.out]; exact Kd.C_take (m := (x5_1 : Int).toNat) ((Kd.R_reads' (Kd.R_after (ok := (fun k_ => (P0_ k_ ∨ w.heap.size ≤ k_) ∧ k_ ≠ gb492)) (kR_ HO_0.out) hg hat)).2.2) KL29.out)); have n5_ := a0_ (ho); clear HO_0; clear BK492; clear HB; clear HK; clear HR499; clear HO502; have HO_0 := n0_; have BK492 := n1_; have HB := n2_; have HK := n3_; have HR499 := n4_; have HO505 := n5_; clear n0_ n1_ n2_ n3_ n4_ n5_; clear ho hb hg hat; have q34 : (x5_1 : Int) ≤ ((l0.length : Int) : Int) := dec_; obtain ⟨i034, hi034, _, hsz34, _⟩ := info_parts info45; have hroom34 : l0.length ≤ co30 := (Kd.R_reads' HO_0.out).2.1; have hC34 : Kd.C k45 _ Ao30 l0.length l0 := (Kd.R_reads' HO_0.out).2.2; have q034 : (0 : Int) ≤ (x5_1 : Int) := dec_; have hcut34 := cut_from (P := Tryz.prog) 27 45 .i64 Tryz.underlying27 hi034 4 hsz34 Ao30 l0.length co30 x5_1 q034 q34; have hr34 := Kd.C_drop (m := (x5_1 : Int).toNat) (c := co30) hC34 (by omega) hroom34; obtain ⟨A34, hA34⟩ : ∃ A1, A1 = (if co30 = (x5_1 : Int).toNat then Ao30 else (Ao30 : Option Addr).map (·.add ((x5_1 : Int).toNat * 4))) := ⟨_, rfl⟩; obtain ⟨c34, hc34⟩ : ∃ c1, c1 = co30 - (x5_1 : Int).toNat := ⟨_, rfl⟩; have hy34 : y506.length = l0.length - (x5_1 : Int).toNat := (by rw [Ny506.out, List.length_drop] <;> omega); rw [show (l0).drop (x5_1 : Int).toNat = y506 from Ny506.out.symm] at hr34; replace hr34 : Kd.C k45 _ A34 y506.length y506 := (by rw [hA34]; exact hr34); rw [← hy34, ← hA34, ← hc34] at hcut34; have HR509 := a0_ hr34; have HC509 := a0_ (show y506.length ≤ c34 from by rw [hy34, hc34]; exact Nat.sub_le_sub_right hroom34 _); clear hr34 hC34 hroom34 hi034 hsz34 hc34; have KY34 := a0_ hy34; have KA34 := a0_ hA34; clear hy34 hA34; have KL34 := a0_ (show (x5_1 : Int).toNat ≤ l0.length from by omega); replace q34 := eq_true q34) | ((with_reducible refine gate_builtin (b := .append) (xs := #[.tmp 44, .tmp 47]) rfl ?_); at_builtin; refine Kd.R_append_rows k45 (w0 := w0) w0.heap.size rfl (.tmp 44) (.tmp 47) 27 45 (.agg #[(.string ⟨#[]⟩), (.int .i64 0), (.int .i64 0), (.string ⟨#[]⟩)]) 48 rfl Tryz.underlying27 info45 rfl (by decide) (by omega) v504 y503 y506 _ _ _ (fun k_ => (P0_ k_ ∨ w.heap.size ≤ k_) ∧ nw_ k_ Ao30 l0.length co30 ∧ k_ ≠ gb492) (fun _ => False) rfl rfl ?aO ?aR (fun _ _ h => h) (fun _ h => h.elim) ?aF ?aB ?aS ?aL ?_; (case aR => repeat (first | exact (by repeat (first | (with_reducible exact HR509.out) | (with_reducible refine Kd.C_alloc ?_ _) | (with_reducible refine Kd.C_drewN ?_ _) | (with_reducible refine Kd.C_drew ?_) | exact HR509.out)) | (with_reducible refine Kd.C_alloc ?_ _) | (with_reducible refine Kd.C_drewN ?_ _) | (with_reducible refine Kd.C_drew ?_))); (case aB => exact bq1_); (case aF => exact (fun k_ hk => ⟨(.inr (Nat.le_trans (by first | exact HK.out.1 | exact (show Kept w _ (fun k_ => P0_ k_) from by repeat (first | (with_reducible first | exact HK.out | apply Kept.alloc | apply Kept.drewN | apply Kept.drew | refine Kept.setCell ?_ (.inr GW492.out) _) | exact HK.out)).1) hk)), Kd.fresh' (Kd.R_lt (kR_ HO_0.out)) k_ hk, Kd.freshB (g := gb492) (o := .cells #[.string a1_0, .int .i64 a1_1, .int .i64 a1_2, .string a1_3] 45 (0, 0)) (kB_ BK492.out) k_ hk⟩)); (case aO => exact (kR_ HO505.out)); (case aS => exact (below_size bq1_)); (case aL => have := LMc28.out; omega); intro v511 w35 ho hb hg hat; rw [← Ny510.out] at ho; have n0_ := a0_ (Kd.R_after (ok := (fun k_ => (P0_ k_ ∨ w.heap.size ≤ k_) ∧ k_ ≠ gb492)) (kR_ HO_0.out) hg hat); have n1_ := a0_ (blk_grown (g := gb492) (o := .cells #[.string a1_0, .int .i64 a1_1, .int .i64 a1_2, .string a1_3] 45 (0, 0)) (kB_ BK492.out) hg (Kd.R_away HO505.out (fun _ hk => hk.2.2))); have n2_ := a0_ (hb); have n3_ := a0_ (Kept.of_grown (S := (fun k_ => P0_ k_)) hg (by repeat (first | (with_reducible first | exact HK.out | apply Kept.alloc | apply Kept.drewN | apply Kept.drew | refine Kept.setCell ?_ (.inr GW492.out) _) | exact HK.out)) (fun k_ e_ => (HO505.out.1 k_ e_).1)); have n4_ := a0_ ((show Kd.C k45 w35 Ao30 y496.length y496 from by rw [Ny496.out]; exact Kd.C_take (m := (x5_1 : Int).toNat) ((Kd.R_reads' (Kd.R_after (ok := (fun k_ => (P0_ k_ ∨ w.heap.size ≤ k_) ∧ k_ ≠ gb492)) (kR_ HO_0.out) hg hat)).2.2) KL29.out)); have n5_ := a0_ ((show Kd.C k45 w35 A34 y506.length y506 from by rw [Ny506.out, KA34.out]; exact Kd.C_drop (m := (x5_1 : Int).toNat) (c := co30) ((Kd.R_reads' (Kd.R_after (ok := (fun k_ => (P0_ k_ ∨ w.heap.size ≤ k_) ∧ k_ ≠ gb492)) (kR_ HO_0.out) hg hat)).2.2) KL34.out ((Kd.R_reads' (Kd.R_after (ok := (fun k_ => (P0_ k_ ∨ w.heap.size ≤ k_) ∧ k_ ≠ gb492)) (kR_ HO_0.out) hg hat)).2.1))); have n6_ := a0_ (ho); clear HO_0; clear BK492; clear HB; clear HK; clear HR499; clear HR509; clear HO505; have HO_0 := n0_; have BK492 := n1_; have HB := n2_; have HK := n3_; have HR499 := n4_; have HR509 := n5_; have HO512 := n6_; clear n0_ n1_ n2_ n3_ n4_ n5_ n6_; clear ho hb hg hat))
       go_ret
       exact ⟨_, rr_, by (with_reducible repeat (first | apply Kd.R_alloc | apply Kd.R_drewN | apply Kd.R_drew)); exact Kd.R_mono HO512.out (fun _ hk => hk.1), bq1_, by repeat (first | (with_reducible first | exact HK.out | apply Kept.alloc | apply Kept.drewN | apply Kept.drew | refine Kept.setCell ?_ (.inr GW492.out) _) | exact HK.out)⟩
end Go.Proofs.YtiegkjimpclmaaaGreatDoor.P
namespace Go.Proofs.YtiegkjimpclmaaaGreatDoor.P
open Go.RowKit Go.Proofs.YtiegkjimpclmaaaGreatDoorW.PrintWords Go.Proofs.YtiegkjimpclmaaaGreatDoorW.PrintLast Go.Proofs.YtiegkjimpclmaaaGreatDoorW.PrintMore
attribute [local go_sem] max2_int min2_int max_two min_two max_three min_three max_four min_four
set_option linter.unusedVariables false
set_option linter.unusedSimpArgs false
def impl_GoodRecord.f (k : Nat) (a0_0 : ByteArray) (a0_1 : Int) (a0_2 : Int) (a0_3 : ByteArray) : Option (Bool) := (impl_GoodName.f a0_0).bind fun t398 => (if t398 = true then ((impl_within.f a0_2 0 100000).bind fun t399 => (if t399 = true then (if (a0_3.size : Int) > 100 then (some false) else ((impl_DataBytes.f k a0_1 a0_3).bind fun bt400 => (some bt400.2))) else (some false))) else (some false))
theorem impl_GoodRecord.mono : ∀ a0 a1 a2 a3 k, LeO (impl_GoodRecord.f k a0 a1 a2 a3) (impl_GoodRecord.f (k + 1) a0 a1 a2 a3) := by
 intro a0 a1 a2 a3 k
 unfold impl_GoodRecord.f
 repeat' first
  | (with_reducible exact impl_DataBytes.mono _ _ _)
  | (with_reducible exact LeO.refl _)
  | (with_reducible exact LeO.none _)
  | (with_reducible refine LeO.ite ?_ ?_)
  | (with_reducible refine LeO.bind ?_ (fun _ => ?_))
  | exact impl_DataBytes.mono _ _ _
  | exact LeO.none _
  | refine LeO.ite ?_ ?_
  | refine LeO.bind ?_ (fun _ => ?_)
set_option maxHeartbeats 8000000 in
set_option maxRecDepth 100000 in
theorem impl_GoodRecord.calls (k : Nat) (a0_0 : ByteArray) (a0_1 : Int) (a0_2 : Int) (a0_3 : ByteArray) (r : Bool) (w : World) (h : impl_GoodRecord.f k a0_0 a0_1 a0_2 a0_3 = some r) (hv_ : Vars w := by exact vv_) :
 Calls Tryz.prog 29 #[.agg #[.string a0_0, .int .i64 a0_1, .int .i64 a0_2, .string a0_3]] w fun e w' => e = .returned (.bool r) ∧ Below w.heap.size w w' := by
 have HV_ := a0_ hv_
 clear hv_
 have hu45 := Tryz.underlying45
 have HB := a0_ (Below.refl w.heap.size w)
 have H := h
 clear h
 unfold impl_GoodRecord.f at H
 obtain ⟨t398, A20, H⟩ := Option.bind_eq_some_iff.mp H
 have A2 := a0_ A20
 clear A20
 by_cases c3 : t398 = true
 case neg =>
  replace c3 := Bool.eq_false_iff.mpr c3
  subst c3
  rw [if_neg (show ¬ (false = true) by decide)] at H
  obtain rfl := Option.some.inj H
  go_enter Tryz.func29, Tryz.ntmps29
  go_wp2_with (first | ((with_reducible refine gate_dst (N := 1) rfl ?_); (try (refine gate_guard (by rfl) ?_; dsimp only)); refine boxS_ 1 #[.string a0_0, .int .i64 a0_1, .int .i64 a0_2, .string a0_3] 45 (fun gb397 hg w21 hbox hb => ?_); have n0_ := a0_ (below_step bq0_ hb); have n1_ := a0_ (hbox); have n2_ := a0_ (gw_ hg : w.heap.size ≤ gb397); have n3_ := n2_; clear HB; have HB := n0_; have BK397 := n1_; have GW397 := n2_; have GE397 := n3_; clear n0_ n1_ n2_ n3_; clear hb hbox hg; obtain ⟨z22_0, z22_1, z22_2, z22_3, q22_0, q22_1, q22_2, q22_3⟩ := bk4_ BK397.out) | ((with_reducible refine gate_callee (f := 83) rfl ?_); refine goesL_ (some 7) rfl rfl Tryz.func83 (by kernel_rfl) rfl #[.string a0_0] rfl argsS_ ?_; (with_reducible refine (impl_GoodName.calls a0_0 false _ A2.out).mono ?_); rintro e w23 ⟨rfl, hb⟩; refine ⟨_, rfl, ?_⟩; replace BK397 := a0_ (bkB_ BK397 hb); replace HB := a0_ (below_step bq1_ hb); clear hb))
  go_ret
  exact ⟨rr_, bq1_⟩
 subst c3
 rw [if_pos rfl] at H
 obtain ⟨t399, A40, H⟩ := Option.bind_eq_some_iff.mp H
 have A4 := a0_ A40
 clear A40
 by_cases c5 : t399 = true
 case neg =>
  replace c5 := Bool.eq_false_iff.mpr c5
  subst c5
  rw [if_neg (show ¬ (false = true) by decide)] at H
  obtain rfl := Option.some.inj H
  go_enter Tryz.func29, Tryz.ntmps29
  go_wp2_with (first | ((with_reducible refine gate_dst (N := 1) rfl ?_); (try (refine gate_guard (by rfl) ?_; dsimp only)); refine boxS_ 1 #[.string a0_0, .int .i64 a0_1, .int .i64 a0_2, .string a0_3] 45 (fun gb397 hg w17 hbox hb => ?_); have n0_ := a0_ (below_step bq0_ hb); have n1_ := a0_ (hbox); have n2_ := a0_ (gw_ hg : w.heap.size ≤ gb397); have n3_ := n2_; clear HB; have HB := n0_; have BK397 := n1_; have GW397 := n2_; have GE397 := n3_; clear n0_ n1_ n2_ n3_; clear hb hbox hg; obtain ⟨z18_0, z18_1, z18_2, z18_3, q18_0, q18_1, q18_2, q18_3⟩ := bk4_ BK397.out) | ((with_reducible refine gate_callee (f := 83) rfl ?_); refine goesL_ (some 7) rfl rfl Tryz.func83 (by kernel_rfl) rfl #[.string a0_0] rfl argsS_ ?_; (with_reducible refine (impl_GoodName.calls a0_0 true _ A2.out).mono ?_); rintro e w19 ⟨rfl, hb⟩; refine ⟨_, rfl, ?_⟩; replace BK397 := a0_ (bkB_ BK397 hb); replace HB := a0_ (below_step bq1_ hb); clear hb; obtain ⟨z20_0, z20_1, z20_2, z20_3, q20_0, q20_1, q20_2, q20_3⟩ := bk4_ BK397.out) | (go_at_call 84; (with_reducible refine (impl_within.calls a0_2 0 100000 false _ A4.out).mono ?_); rintro e w' ⟨rfl, ⟨nd, rfl⟩⟩))
  go_ret
  exact ⟨rr_, bq1_⟩
 subst c5
 rw [if_pos rfl] at H
 by_cases c6 : (a0_3.size : Int) > 100
 case pos =>
  rw [if_pos c6] at H
  have c6b0 := decide_eq_true c6
  have c6b1 : decide (100 < a0_3.size) = true := decide_eq_true (by omega)
  clear c6
  obtain rfl := Option.some.inj H
  go_enter Tryz.func29, Tryz.ntmps29
  go_wp2_with (first | ((with_reducible refine gate_dst (N := 1) rfl ?_); (try (refine gate_guard (by rfl) ?_; dsimp only)); refine boxS_ 1 #[.string a0_0, .int .i64 a0_1, .int .i64 a0_2, .string a0_3] 45 (fun gb397 hg w7 hbox hb => ?_); have n0_ := a0_ (below_step bq0_ hb); have n1_ := a0_ (hbox); have n2_ := a0_ (gw_ hg : w.heap.size ≤ gb397); have n3_ := n2_; clear HB; have HB := n0_; have BK397 := n1_; have GW397 := n2_; have GE397 := n3_; clear n0_ n1_ n2_ n3_; clear hb hbox hg; obtain ⟨z8_0, z8_1, z8_2, z8_3, q8_0, q8_1, q8_2, q8_3⟩ := bk4_ BK397.out) | ((with_reducible refine gate_callee (f := 83) rfl ?_); refine goesL_ (some 7) rfl rfl Tryz.func83 (by kernel_rfl) rfl #[.string a0_0] rfl argsS_ ?_; (with_reducible refine (impl_GoodName.calls a0_0 true _ A2.out).mono ?_); rintro e w9 ⟨rfl, hb⟩; refine ⟨_, rfl, ?_⟩; replace BK397 := a0_ (bkB_ BK397 hb); replace HB := a0_ (below_step bq1_ hb); clear hb; obtain ⟨z10_0, z10_1, z10_2, z10_3, q10_0, q10_1, q10_2, q10_3⟩ := bk4_ BK397.out) | (go_at_call 84; (with_reducible refine (impl_within.calls a0_2 0 100000 true _ A4.out).mono ?_); rintro e w' ⟨rfl, ⟨nd, rfl⟩⟩))
  go_ret
  exact ⟨rr_, bq1_⟩
 rw [if_neg c6] at H
 have c6b0 := decide_eq_false c6
 have c6b1 : decide (100 < a0_3.size) = false := decide_eq_false (by omega)
 clear c6
 obtain ⟨⟨t400, t401⟩, A110, H⟩ := Option.bind_eq_some_iff.mp H
 have A11 := a0_ A110
 clear A110
 obtain rfl := Option.some.inj H
 go_enter Tryz.func29, Tryz.ntmps29
 go_wp2_with (first | ((with_reducible refine gate_dst (N := 1) rfl ?_); (try (refine gate_guard (by rfl) ?_; dsimp only)); refine boxS_ 1 #[.string a0_0, .int .i64 a0_1, .int .i64 a0_2, .string a0_3] 45 (fun gb397 hg w12 hbox hb => ?_); have n0_ := a0_ (below_step bq0_ hb); have n1_ := a0_ (hbox); have n2_ := a0_ (gw_ hg : w.heap.size ≤ gb397); have n3_ := n2_; clear HB; have HB := n0_; have BK397 := n1_; have GW397 := n2_; have GE397 := n3_; clear n0_ n1_ n2_ n3_; clear hb hbox hg; obtain ⟨z13_0, z13_1, z13_2, z13_3, q13_0, q13_1, q13_2, q13_3⟩ := bk4_ BK397.out) | ((with_reducible refine gate_callee (f := 83) rfl ?_); refine goesL_ (some 7) rfl rfl Tryz.func83 (by kernel_rfl) rfl #[.string a0_0] rfl argsS_ ?_; (with_reducible refine (impl_GoodName.calls a0_0 true _ A2.out).mono ?_); rintro e w14 ⟨rfl, hb⟩; refine ⟨_, rfl, ?_⟩; replace BK397 := a0_ (bkB_ BK397 hb); replace HB := a0_ (below_step bq1_ hb); clear hb; obtain ⟨z15_0, z15_1, z15_2, z15_3, q15_0, q15_1, q15_2, q15_3⟩ := bk4_ BK397.out) | (go_at_call 84; (with_reducible refine (impl_within.calls a0_2 0 100000 true _ A4.out).mono ?_); rintro e w' ⟨rfl, ⟨nd, rfl⟩⟩) | ((with_reducible refine gate_callee (f := 31) rfl ?_); refine goesL_ (some 26) rfl rfl Tryz.func31 (by kernel_rfl) rfl #[.int .i64 a0_1, .string a0_3] rfl argsS_ ?_; (with_reducible refine (impl_DataBytes.calls k a0_1 a0_3 t400 t401 _ A11.out).mono ?_); rintro e w16 ⟨rfl, hb⟩; refine ⟨_, rfl, ?_⟩; replace BK397 := a0_ (bkB_ BK397 hb); replace HB := a0_ (below_step bq1_ hb); clear hb))
 go_ret
 exact ⟨rr_, bq1_⟩
end Go.Proofs.YtiegkjimpclmaaaGreatDoor.P
namespace Go.Proofs.YtiegkjimpclmaaaGreatDoor.Pure
open Go.RowKit Go.Proofs.YtiegkjimpclmaaaGreatDoor.P Go.Proofs.YtiegkjimpclmaaaGreatDoorW.PrintWords Go.Proofs.YtiegkjimpclmaaaGreatDoorW.PrintLast
set_option linter.unusedVariables false
set_option linter.unusedSimpArgs false
theorem nb_rd (l : List ByteArray) (i : Nat) (h : i < l.length) : rdOf ByteArray.empty l (i : Int) = l[i] := by
 unfold rdOf
 rw [Int.toNat_natCast, List.getD_eq_getElem?_getD, List.getElem?_eq_getElem h]
 rfl
theorem nb_loops (parts : List ByteArray) (hp : ∀ p ∈ parts, p.size ≤ 1000) (hl : parts.length ≤ 1000) : ∀ (m i : Nat) (acc : ByteArray), i + m = parts.length → acc.size + m * 1024 < 1099511627776 →
 ∃ r, Ev (fun k => impl_labelBytes.l0 k acc parts (parts.length : Int) (i : Int)) r ∧ Ev (fun k => spec_l2Bytes.l0 k acc parts (parts.length : Int) (i : Int)) (r ++ (⟨#[0]⟩ : ByteArray)) ∧ r.size = acc.size + ((parts.drop i).map fun p => 1 + p.size).sum ∧ r.size < 1099511627776
 | 0, i, acc, him, ha => by
  refine ⟨acc, Ev.step (f := fun _ => some acc) (fun k => ?_) (Ev.now _), Ev.step (f := fun _ => some (acc ++ (⟨#[0]⟩ : ByteArray))) (fun k => ?_) (Ev.now _), by rw [List.drop_of_length_le (by omega)]; rfl, by omega⟩
  · show impl_labelBytes.l0 (k + 1) acc parts (parts.length : Int) (i : Int) = _
    unfold impl_labelBytes.l0
    rw [if_neg (by omega)]
  · show spec_l2Bytes.l0 (k + 1) acc parts (parts.length : Int) (i : Int) = _
    unfold spec_l2Bytes.l0
    rw [if_neg (by omega), if_pos (by omega)]
 | m + 1, i, acc, him, ha => by
  have hi : i < parts.length := by omega
  have hs : ∀ v : Int, (strOfNums [v]).size = 1 := fun v => by rw [strOfNums_size]; rfl
  have hpi := hp _ (List.getElem_mem hi)
  obtain ⟨r, h1, h2, h3, h4⟩ := nb_loops parts hp hl m (i + 1) (acc ++ (strOfNums [((parts[i].size : Int)) % 256] ++ parts[i])) (by omega) (by
   rw [ByteArray.size_append, ByteArray.size_append, hs]; omega)
  refine ⟨r, Ev.step (fun k => ?_) h1, Ev.step (fun k => ?_) h2, ?_, h4⟩
  · show impl_labelBytes.l0 (k + 1) acc parts (parts.length : Int) (i : Int) = _
    conv => lhs; unfold impl_labelBytes.l0
    rw [if_pos (by omega), if_pos (by omega), if_pos (by omega), nb_rd _ _ hi, Option.bind_some, if_pos (by rw [hs]; omega), if_pos (by rw [ByteArray.size_append, hs]; omega), w64n (by omega)]
  · show spec_l2Bytes.l0 (k + 1) acc parts (parts.length : Int) (i : Int) = _
    conv => lhs; unfold spec_l2Bytes.l0
    rw [if_pos (by omega), if_pos (by omega), if_pos (by omega), nb_rd _ _ hi, Option.bind_some, if_pos (by rw [hs]; omega), if_pos (by rw [ByteArray.size_append, hs]; omega), w64n (by omega)]
  · rw [h3, ByteArray.size_append, ByteArray.size_append, hs, List.drop_eq_getElem_cons hi, List.map_cons, List.sum_cons]
    omega
theorem split_sum : ∀ l : List UInt8, ((splitL 46 l).map fun p => 1 + p.length).sum = l.length + 1
 | [] => rfl
 | x :: xs => by
  have ih := split_sum xs
  unfold splitL
  split
  · rw [List.map_cons, List.sum_cons, ih, List.length_cons, List.length_nil]
    omega
  · cases hs : splitL 46 xs with
    | nil => exact absurd hs (splitL_ne 46 xs)
    | cons p ps =>
     rw [hs, List.map_cons, List.sum_cons] at ih
     rw [List.map_cons, List.sum_cons, List.length_cons, List.length_cons]
     omega
theorem nb_both (s : ByteArray) (h : goodL s.data.toList = true) : ∃ r, Ev (fun k => impl_labelBytes.f k s) r ∧ Ev (fun k => spec_l2Bytes.f k s) (r ++ (⟨#[0]⟩ : ByteArray)) ∧ r.size = (if s.size = 0 then 0 else s.size + 1) := by
 have hg := good_size h
 have hss := size_len s
 obtain ⟨q, e1, e2, e3⟩ := labels_ev s (by omega)
 have e3 := e3 (e2.trans h)
 have hlen : (labelsL s.data.toList).length ≤ 61 := by
  unfold labelsL
  split
  · simp
  · have := splitL_len 46 s.data.toList; omega
 obtain ⟨r, h1, h2, h3, h4⟩ := nb_loops ((labelsL s.data.toList).map mkB) (by
  intro p hp
  obtain ⟨x, hx, rfl⟩ := List.mem_map.1 hp
  rw [mkB_size]
  unfold labelsL at hx
  split at hx
  · cases hx
  · have := splitL_part 46 _ x hx; omega) (by rw [List.length_map]; omega) _ 0 (⟨#[]⟩ : ByteArray) (Nat.zero_add _) (by rw [List.length_map]; show 0 + _ < _; omega)
 refine ⟨r, ?_, ?_, ?_⟩
 · refine Ev.congr (f := fun k => impl_labelBytes.l0 k (⟨#[]⟩ : ByteArray) ((labelsL s.data.toList).map mkB) (((labelsL s.data.toList).map mkB).length : Int) 0) (fun k => ?_) h1
   unfold impl_labelBytes.f
   rw [labelsOf_eq s (by omega)]
   rfl
 · refine Ev.congr (f := fun k => (spec_l1Labels.f k s).bind fun bt137 => (spec_l2Bytes.l0 k (⟨#[]⟩ : ByteArray) bt137.1 (bt137.1.length : Int) 0)) (fun k => rfl) (Ev.bind e1 ?_)
   rw [e3]
   exact h2
 · rw [h3, List.drop_zero, List.map_map]
   have e : ((fun p : ByteArray => 1 + p.size) ∘ mkB) = fun p => 1 + p.length := by funext p; show 1 + (mkB p).size = _; rw [mkB_size]
   rw [e]
   unfold labelsL
   by_cases h0 : s.data.toList = []
   · rw [if_pos h0, if_pos (by rw [hss, h0]; rfl)]; rfl
   · rw [if_neg h0, if_neg (by rw [hss]; have := List.length_pos_iff.2 h0; omega), split_sum, ← hss]
     show 0 + (s.size + 1) = _
     omega
end Go.Proofs.YtiegkjimpclmaaaGreatDoor.Pure
