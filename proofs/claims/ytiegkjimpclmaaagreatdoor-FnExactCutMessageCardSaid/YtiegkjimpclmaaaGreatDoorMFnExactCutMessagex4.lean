/- FnExactCutMessage: part 5 of 14 of my texts for this claim, joined; the theorem stands in the last. Conditions: none beyond the statement's. -/
import Derived.Test.YtiegkjimpclmaaaGreatDoorMFnExactCutMessagex3
open Go.RowKit Go.Proofs.YtiegkjimpclmaaaGreatDoorW.PrintWords Go.Proofs.YtiegkjimpclmaaaGreatDoorW.PrintLast Go.Proofs.YtiegkjimpclmaaaGreatDoorW.PrintMore
set_option linter.unusedVariables false
set_option linter.unusedSimpArgs false
set_option maxHeartbeats 8000000
set_option maxRecDepth 100000
namespace Go.Proofs.YtiegkjimpclmaaaGreatDoor.P
attribute [local go_sem] max2_int min2_int max_two min_two max_three min_three max_four min_four
mutual
def spec_l4Less.l0 : Nat → List (S45) → Int → Int → Option ((List (S45)))
 | 0, _, _, _ => none
 | k + 1, x0, x3, x4 => if x4 > 0 then (if 0 ≤ (wrap64 (x4 - 1)) then (if (wrap64 (x4 - 1)) < (x0.length : Int) then (if 0 ≤ x3 then (if x3 < (x0.length : Int) then (if ((rd_T45 x0 (wrap64 (x4 - 1))).f0).toList = ((rd_T45 x0 x3).f0).toList then (spec_l4Less.j1 k x0 x3 x4 (((rd_T45 x0 (wrap64 (x4 - 1))).f1) == ((rd_T45 x0 x3).f1))) else (spec_l4Less.j1 k x0 x3 x4 false)) else (none)) else (none)) else (none)) else (none)) else (spec_l4Less.j1 k x0 x3 x4 false)
def spec_l4Less.j1 : Nat → List (S45) → Int → Int → Bool → Option ((List (S45)))
 | 0, _, _, _, _ => none
 | k + 1, x0, x3, x4, x38 => if x38 = true then (spec_l4Less.l0 k x0 x3 (wrap64 (x4 - 1))) else ((some (([] : List (S45)) : List (S45))).bind fun y951 => (if 0 ≤ x4 then (if x4 ≤ (x0.length : Int) then ((some (x0.take (x4 : Int).toNat : List (S45))).bind fun y954 => (if y951.length + y954.length < 2932031007402 then (some (y951 ++ y954)) else (none))) else (none)) else (none)))
end
def spec_l4Less.f (k : Nat) (l0 : List (S45)) : Option ((List (S45))) := spec_l4Less.l0 k l0 (wrap64 ((l0.length : Int) - 1)) (wrap64 ((l0.length : Int) - 1))
theorem spec_l4Less.calls (k : Nat) (A0 : Option Addr) (c0 : Nat) (l0 : List (S45)) (r : List (S45)) (w : World) (hr0 : Kd.C k45 w A0 l0.length l0) (hc0 : l0.length ≤ c0) (h : spec_l4Less.f k l0 = some r) :
 Calls Tryz.prog 104 #[.slice A0 l0.length c0] w fun e w' => ∃ v0_ : Value, e = .returned (v0_) ∧ Kd.R k45 45 w' w.heap.size (fun _ => True) v0_ r ∧ Below w.heap.size w w' := by
 have HR0 := a0_ hr0
 have HC0 := a0_ hc0
 clear hr0 hc0
 have HB := a0_ (Below.refl w.heap.size w)
 have H := h
 clear h
 unfold spec_l4Less.f at H
 have H' := a0_ H
 clear H
 go_enter Tryz.func104, Tryz.ntmps104
 go_wp2
 repeat (go_quiet (fail); try go_wp2)
 go_loopg [4] k (fun kq v4 w' => ∃ (x4_1 : Int), v4 = .int .i64 x4_1 ∧ Aside0 (spec_l4Less.l0 kq l0 (wrap64 ((l0.length : Int) - 1)) x4_1 = some r) ∧ Aside0 (kq ≤ k) ∧ Aside0 (Below w.heap.size w w'))
 case atStart => exact ⟨(wrap64 ((l0.length : Int) - 1)), rs_, H', ⟨Nat.le_refl _⟩, ⟨bq0_⟩⟩
 case round =>
  clear H'
  obtain ⟨x4_1, rfl, HA, HK1, HB⟩ := hrel
  cases gk with
  | zero => exact absurd HA.out (by simp [spec_l4Less.l0])
  | succ k1 =>
   have H := HA.out
   clear HA
   simp only [spec_l4Less.l0] at H
   have HC2 := a0_ H
   clear H
   go_upto_region 3 with (fail)
   repeat (go_quiet (fail); go_upto_region 3 with (fail))
   go_cut [38] (fun v38 wc => ∃ (kq : Nat) (x38_1 : Bool), v38 = .bool x38_1 ∧ Aside0 (spec_l4Less.j1 kq l0 (wrap64 ((l0.length : Int) - 1)) x4_1 x38_1 = some r) ∧ Aside0 (kq ≤ k1) ∧ Aside0 (Below w.heap.size w wc))
   case first =>
    have H := HC2.out
    clear HC2
    by_cases c3 : x4_1 > 0
    case neg =>
     rw [if_neg c3] at H
     have c3b0 := decide_eq_false c3
     clear c3
     (first | rw [c3b0] | (simp only [i64_w, i32_w]; rw [c3b0]) | skip)
     have H' := a0_ H
     clear H
     go_wp2
     repeat (go_quiet (fail); try go_wp2)
     (try rw [← hji4]); (try rw [← hji7]); skip
     go_meet
     case rel => exact ⟨_, (false), rs_, (by first | exact H' | (rw [hji4]; exact H') | (rw [hji7]; exact H')), jl_ HK1, ⟨bq0_⟩⟩
    rw [if_pos c3] at H
    have c3b0 := decide_eq_true c3
    clear c3
    (first | rw [c3b0] | (simp only [i64_w, i32_w]; rw [c3b0]) | skip)
    obtain ⟨ji4, hji4⟩ : ∃ j_ : Int, (wrap64 (x4_1 - 1)) = j_ := ⟨_, rfl⟩
    (first | rw [hji4] at H | simp only [hji4] at H)
    have hji4w : (IntKind.i64.wrap (x4_1 - 1)) = ji4 := (i64_w _).trans hji4
    by_cases c5 : 0 ≤ (ji4)
    case neg =>
     rw [if_neg c5] at H
     exact absurd H (by simp)
    rw [if_pos c5] at H
    have c5b0 := decide_eq_true c5
    clear c5
    by_cases c6 : (ji4) < (l0.length : Int)
    case neg =>
     rw [if_neg c6] at H
     exact absurd H (by simp)
    rw [if_pos c6] at H
    have c6b0 := decide_eq_true c6
    clear c6
    obtain ⟨ji7, hji7⟩ : ∃ j_ : Int, (wrap64 ((l0.length : Int) - 1)) = j_ := ⟨_, rfl⟩
    (first | rw [hji7] at H | simp only [hji7] at H)
    have hji7w : (IntKind.i64.wrap ((l0.length : Int) - 1)) = ji7 := (i64_w _).trans hji7
    by_cases c8 : 0 ≤ (ji7)
    case neg =>
     rw [if_neg c8] at H
     exact absurd H (by simp)
    rw [if_pos c8] at H
    have c8b0 := decide_eq_true c8
    clear c8
    by_cases c9 : (ji7) < (l0.length : Int)
    case neg =>
     rw [if_neg c9] at H
     exact absurd H (by simp)
    rw [if_pos c9] at H
    have c9b0 := decide_eq_true c9
    clear c9
    by_cases c10 : ((rd_T45 l0 (ji4)).f0).toList = ((rd_T45 l0 (ji7)).f0).toList
    case neg =>
     rw [if_neg c10] at H
     have c10b0 := beq_eq_false_iff_ne.mpr c10
     have c10b1 := bne_iff_ne.mpr c10
     have H' := a0_ H
     clear H
     have p947 := t0_ ((ji4))
     have q947 := tl_ ((ji4)) (l0.length)
     obtain ⟨ad947, e947, -, -, -, -, hx947_0, hx947_1, hx947_2, hx947_3⟩ := rp_ HB (at_T45 HR0.out (ji4) (of_eq_true p947) (of_eq_true q947))
     cases e947
     have p948 := t0_ ((ji7))
     have q948 := tl_ ((ji7)) (l0.length)
     obtain ⟨ad948, e948, -, -, -, -, hx948_0, hx948_1, hx948_2, hx948_3⟩ := rp_ HB (at_T45 HR0.out (ji7) (of_eq_true p948) (of_eq_true q948))
     obtain rfl : ad947 = ad948 := (by injection e948)
     go_wp2
     repeat (go_quiet (fail); try go_wp2)
     (try rw [← hji4]); (try rw [← hji7]); skip
     go_meet
     case rel => exact ⟨_, (false), rs_, (by first | exact H' | (rw [hji4]; exact H') | (rw [hji7]; exact H')), jl_ HK1, ⟨bq0_⟩⟩
    rw [if_pos c10] at H
    have c10b0 := beq_iff_eq.mpr c10
    have c10b1 := bne_eq_false_iff_eq.mpr c10
    clear c10
    have H' := a0_ H
    clear H
    have p947 := t0_ ((ji4))
    have q947 := tl_ ((ji4)) (l0.length)
    obtain ⟨ad947, e947, -, -, -, -, hx947_0, hx947_1, hx947_2, hx947_3⟩ := rp_ HB (at_T45 HR0.out (ji4) (of_eq_true p947) (of_eq_true q947))
    cases e947
    have p948 := t0_ ((ji7))
    have q948 := tl_ ((ji7)) (l0.length)
    obtain ⟨ad948, e948, -, -, -, -, hx948_0, hx948_1, hx948_2, hx948_3⟩ := rp_ HB (at_T45 HR0.out (ji7) (of_eq_true p948) (of_eq_true q948))
    obtain rfl : ad947 = ad948 := (by injection e948)
    have p949 := t0_ ((ji4))
    have q949 := tl_ ((ji4)) (l0.length)
    obtain ⟨ad949, e949, -, -, -, -, hx949_0, hx949_1, hx949_2, hx949_3⟩ := rp_ HB (at_T45 HR0.out (ji4) (of_eq_true p949) (of_eq_true q949))
    obtain rfl : ad947 = ad949 := (by injection e949)
    have p950 := t0_ ((ji7))
    have q950 := tl_ ((ji7)) (l0.length)
    obtain ⟨ad950, e950, -, -, -, -, hx950_0, hx950_1, hx950_2, hx950_3⟩ := rp_ HB (at_T45 HR0.out (ji7) (of_eq_true p950) (of_eq_true q950))
    obtain rfl : ad947 = ad950 := (by injection e950)
    go_wp2
    repeat (go_quiet (fail); try go_wp2)
    (try rw [← hji4]); (try rw [← hji7]); skip
    go_meet
    case rel => exact ⟨_, ((((rd_T45 l0 (ji4)).f1) == ((rd_T45 l0 (ji7)).f1))), (by first | rfl | (simp; done) | (simp only [← hji4, ← hji7] <;> (first | rfl | simp)) | (simp [*]; done)), (by first | exact H' | (rw [hji4]; exact H') | (rw [hji7]; exact H')), jl_ HK1, ⟨bq0_⟩⟩
   case rest =>
    clear HC2
    try clear c1
    obtain ⟨kq, x38_1, rfl, HA, HJ1, HB⟩ := hcut
    cases kq with
    | zero => exact absurd HA.out (by simp [spec_l4Less.j1])
    | succ kj1 =>
     have H := HA.out
     clear HA
     simp only [spec_l4Less.j1] at H
     by_cases c11 : x38_1 = true
     case pos =>
      subst c11
      rw [if_pos rfl] at H
      have H' := a0_ H
      clear H
      go_wp2
      repeat (go_quiet (fail); try go_wp2)
      go_roundg kj1
      case measure => have := HK1.out; have := HJ1.out; omega
      case rel => exact ⟨(wrap64 (x4_1 - 1)), rs_, H', jm_ HK1 HJ1, ⟨bq0_⟩⟩
     replace c11 := Bool.eq_false_iff.mpr c11
     subst c11
     rw [if_neg ff_] at H
     obtain ⟨y951, hy951⟩ : ∃ y_ : List (S45), y_ = (([] : List (S45))) := ⟨_, rfl⟩
     replace H := by_ hy951 H
     have Ny951 := a0_ hy951
     clear hy951
     by_cases c12 : 0 ≤ x4_1
     case neg =>
      rw [if_neg c12] at H
      exact absurd H (by simp)
     rw [if_pos c12] at H
     have c12b0 := eq_true c12
     have c12b1 := decide_eq_true c12
     clear c12
     by_cases c13 : x4_1 ≤ (l0.length : Int)
     case neg =>
      rw [if_neg c13] at H
      exact absurd H (by simp)
     rw [if_pos c13] at H
     have c13b0 := eq_true c13
     have c13b1 := decide_eq_true c13
     clear c13
     obtain ⟨y954, hy954⟩ : ∃ y_ : List (S45), y_ = (l0.take (x4_1 : Int).toNat) := ⟨_, rfl⟩
     replace H := by_ hy954 H
     have Ny954 := a0_ hy954
     clear hy954
     by_cases c14 : y951.length + y954.length < 2932031007402
     case neg =>
      rw [if_neg c14] at H
      exact absurd H (by simp)
     rw [if_pos c14] at H
     have LMc14 := a0_ c14
     clear c14
     obtain ⟨y958, hy958⟩ : ∃ y_ : List (S45), y_ = (y951 ++ y954) := ⟨_, rfl⟩
     replace H : (some y958) = some r := by first | (rw [hy958]; with_reducible exact H) | (have H2_ := (Option.bind_some _ _).symm.trans H; rw [hy958]; with_reducible exact H2_) | (have H2_ := (Option.bind_some _ _).symm.trans H; with_reducible exact H2_) | with_reducible exact H | (rw [hy958]; exact H) | exact H
     have Ny958 := a0_ hy958
     clear hy958
     obtain rfl := Option.some.inj H
     go_wp2_with (first | ((with_reducible refine gate_dst (N := 41) rfl ?_); refine Kd.R_lit k45 _ 45 ?hg (N := 41) ?hd (xs := ([] : List (S45))) (inner := []) (ok := fun _ => True) (okp := fun _ => True) ?hr ?hp (fun _ hk => hk) trivial (Below.refl _ _) (Nat.le_refl _) (by simp) ?_; (case hd => rfl); (case hg => rfl); (case hr => first | (go_simp; done) | (go_simp; rfl)); (case hp => exact (Reps.none _ _)); intro v952 w15 ho16 hb hg_ hnew_; clear hg_ hnew_; (first | rw [← Ny951.out] at ho16 | (simp only [Int.reduceToNat] at ho16; rw [← Ny951.out] at ho16)); have HO953 := a0_ (Kd.R_lower ho16 (below_size bq0_)); replace HB := a0_ (below_step bq0_ hb); clear hb ho16; have q17 : (x4_1 : Int) ≤ ((l0.length : Int) : Int) := dec_; obtain ⟨i017, hi017, _, hsz17, _⟩ := info_parts info45; have hroom17 : l0.length ≤ c0 := HC0.out; have hC17 : Kd.C k45 _ A0 l0.length l0 := HR0.out; have hcut17 := cut_to (P := Tryz.prog) 27 45 .i64 Tryz.underlying27 hi017 A0 l0.length c0 x4_1 (dec_) q17 hroom17; have hr17 := Kd.C_take (m := (x4_1 : Int).toNat) hC17 (by omega); have hy17 : y954.length = (x4_1 : Int).toNat := (by rw [Ny954.out, List.length_take]; omega); rw [← Ny954.out] at hr17; rw [← hy17] at hcut17; have HR957 := a0_ hr17; have HC957 := a0_ (show y954.length ≤ c0 from by omega); clear hr17 hC17 hroom17 hi017 hsz17; have KY17 := a0_ hy17; clear hy17; replace q17 := eq_true q17) | ((with_reducible refine gate_builtin (b := .append) (xs := #[.tmp 41, .tmp 44]) rfl ?_); at_builtin; refine Kd.R_append_rows k45 (w0 := w) w.heap.size rfl (.tmp 41) (.tmp 44) 27 45 (.agg #[(.string ⟨#[]⟩), (.int .i64 0), (.int .i64 0), (.string ⟨#[]⟩)]) 48 rfl Tryz.underlying27 info45 rfl (by decide) (by omega) v952 y951 y954 _ _ _ (fun _ => True) (fun _ => False) rfl rfl ?aO ?aR (fun _ _ h => h) (fun _ h => h.elim) ?aF ?aB ?aS ?aL ?_; (case aR => repeat (first | exact (Kd.C_below HR957.out HB.out) | (with_reducible refine Kd.C_alloc ?_ _) | (with_reducible refine Kd.C_drewN ?_ _) | (with_reducible refine Kd.C_drew ?_))); (case aB => exact bq0_); (case aF => exact (fun _ _ => trivial)); (case aO => exact (kR_ HO953.out)); (case aS => exact (below_size bq0_)); (case aL => have := LMc14.out; omega); intro v959 w18 ho hb hg hat; rw [← Ny958.out] at ho; replace HB := a0_ (hb); have HO960 := a0_ (ho); clear HO953; clear ho hb hg hat))
     repeat (go_quiet (first | ((with_reducible refine gate_dst (N := 41) rfl ?_); refine Kd.R_lit k45 _ 45 ?hg (N := 41) ?hd (xs := ([] : List (S45))) (inner := []) (ok := fun _ => True) (okp := fun _ => True) ?hr ?hp (fun _ hk => hk) trivial (Below.refl _ _) (Nat.le_refl _) (by simp) ?_; (case hd => rfl); (case hg => rfl); (case hr => first | (go_simp; done) | (go_simp; rfl)); (case hp => exact (Reps.none _ _)); intro v952 w15 ho16 hb hg_ hnew_; clear hg_ hnew_; (first | rw [← Ny951.out] at ho16 | (simp only [Int.reduceToNat] at ho16; rw [← Ny951.out] at ho16)); have HO953 := a0_ (Kd.R_lower ho16 (below_size bq0_)); replace HB := a0_ (below_step bq0_ hb); clear hb ho16; have q17 : (x4_1 : Int) ≤ ((l0.length : Int) : Int) := dec_; obtain ⟨i017, hi017, _, hsz17, _⟩ := info_parts info45; have hroom17 : l0.length ≤ c0 := HC0.out; have hC17 : Kd.C k45 _ A0 l0.length l0 := HR0.out; have hcut17 := cut_to (P := Tryz.prog) 27 45 .i64 Tryz.underlying27 hi017 A0 l0.length c0 x4_1 (dec_) q17 hroom17; have hr17 := Kd.C_take (m := (x4_1 : Int).toNat) hC17 (by omega); have hy17 : y954.length = (x4_1 : Int).toNat := (by rw [Ny954.out, List.length_take]; omega); rw [← Ny954.out] at hr17; rw [← hy17] at hcut17; have HR957 := a0_ hr17; have HC957 := a0_ (show y954.length ≤ c0 from by omega); clear hr17 hC17 hroom17 hi017 hsz17; have KY17 := a0_ hy17; clear hy17; replace q17 := eq_true q17) | ((with_reducible refine gate_builtin (b := .append) (xs := #[.tmp 41, .tmp 44]) rfl ?_); at_builtin; refine Kd.R_append_rows k45 (w0 := w) w.heap.size rfl (.tmp 41) (.tmp 44) 27 45 (.agg #[(.string ⟨#[]⟩), (.int .i64 0), (.int .i64 0), (.string ⟨#[]⟩)]) 48 rfl Tryz.underlying27 info45 rfl (by decide) (by omega) v952 y951 y954 _ _ _ (fun _ => True) (fun _ => False) rfl rfl ?aO ?aR (fun _ _ h => h) (fun _ h => h.elim) ?aF ?aB ?aS ?aL ?_; (case aR => repeat (first | exact (Kd.C_below HR957.out HB.out) | (with_reducible refine Kd.C_alloc ?_ _) | (with_reducible refine Kd.C_drewN ?_ _) | (with_reducible refine Kd.C_drew ?_))); (case aB => exact bq0_); (case aF => exact (fun _ _ => trivial)); (case aO => exact (kR_ HO953.out)); (case aS => exact (below_size bq0_)); (case aL => have := LMc14.out; omega); intro v959 w18 ho hb hg hat; rw [← Ny958.out] at ho; replace HB := a0_ (hb); have HO960 := a0_ (ho); clear HO953; clear ho hb hg hat)); try go_wp2_with (first | ((with_reducible refine gate_dst (N := 41) rfl ?_); refine Kd.R_lit k45 _ 45 ?hg (N := 41) ?hd (xs := ([] : List (S45))) (inner := []) (ok := fun _ => True) (okp := fun _ => True) ?hr ?hp (fun _ hk => hk) trivial (Below.refl _ _) (Nat.le_refl _) (by simp) ?_; (case hd => rfl); (case hg => rfl); (case hr => first | (go_simp; done) | (go_simp; rfl)); (case hp => exact (Reps.none _ _)); intro v952 w15 ho16 hb hg_ hnew_; clear hg_ hnew_; (first | rw [← Ny951.out] at ho16 | (simp only [Int.reduceToNat] at ho16; rw [← Ny951.out] at ho16)); have HO953 := a0_ (Kd.R_lower ho16 (below_size bq0_)); replace HB := a0_ (below_step bq0_ hb); clear hb ho16; have q17 : (x4_1 : Int) ≤ ((l0.length : Int) : Int) := dec_; obtain ⟨i017, hi017, _, hsz17, _⟩ := info_parts info45; have hroom17 : l0.length ≤ c0 := HC0.out; have hC17 : Kd.C k45 _ A0 l0.length l0 := HR0.out; have hcut17 := cut_to (P := Tryz.prog) 27 45 .i64 Tryz.underlying27 hi017 A0 l0.length c0 x4_1 (dec_) q17 hroom17; have hr17 := Kd.C_take (m := (x4_1 : Int).toNat) hC17 (by omega); have hy17 : y954.length = (x4_1 : Int).toNat := (by rw [Ny954.out, List.length_take]; omega); rw [← Ny954.out] at hr17; rw [← hy17] at hcut17; have HR957 := a0_ hr17; have HC957 := a0_ (show y954.length ≤ c0 from by omega); clear hr17 hC17 hroom17 hi017 hsz17; have KY17 := a0_ hy17; clear hy17; replace q17 := eq_true q17) | ((with_reducible refine gate_builtin (b := .append) (xs := #[.tmp 41, .tmp 44]) rfl ?_); at_builtin; refine Kd.R_append_rows k45 (w0 := w) w.heap.size rfl (.tmp 41) (.tmp 44) 27 45 (.agg #[(.string ⟨#[]⟩), (.int .i64 0), (.int .i64 0), (.string ⟨#[]⟩)]) 48 rfl Tryz.underlying27 info45 rfl (by decide) (by omega) v952 y951 y954 _ _ _ (fun _ => True) (fun _ => False) rfl rfl ?aO ?aR (fun _ _ h => h) (fun _ h => h.elim) ?aF ?aB ?aS ?aL ?_; (case aR => repeat (first | exact (Kd.C_below HR957.out HB.out) | (with_reducible refine Kd.C_alloc ?_ _) | (with_reducible refine Kd.C_drewN ?_ _) | (with_reducible refine Kd.C_drew ?_))); (case aB => exact bq0_); (case aF => exact (fun _ _ => trivial)); (case aO => exact (kR_ HO953.out)); (case aS => exact (below_size bq0_)); (case aL => have := LMc14.out; omega); intro v959 w18 ho hb hg hat; rw [← Ny958.out] at ho; replace HB := a0_ (hb); have HO960 := a0_ (ho); clear HO953; clear ho hb hg hat)))
     go_ret
     exact ⟨_, rr_, kR_ HO960.out, bq0_⟩
def slices_Contains_int_int.f (k : Nat) (l0 : List Int) (a1 : Int) : Option (Bool) := (slices_Index_int_int.f k l0 a1).bind fun t994 => (some (decide (t994 ≥ 0)))
theorem slices_Contains_int_int.calls (k : Nat) (A0 : Option Addr) (c0 : Nat) (l0 : List Int) (a1 : Int) (r : Bool) (w : World) (hr0 : Kd.C (Kd.int .i64) w A0 l0.length l0) (hc0 : l0.length ≤ c0) (h : slices_Contains_int_int.f k l0 a1 = some r) :
 Calls Tryz.prog 197 #[.slice A0 l0.length c0, .int .i64 a1] w fun e w' => e = .returned (.bool r) ∧ Drawn0 w w' := by
 have HR0 := a0_ hr0
 have HC0 := a0_ hc0
 clear hr0 hc0
 have H := h
 clear h
 unfold slices_Contains_int_int.f at H
 obtain ⟨t994, A3, H⟩ := ob_ H
 obtain rfl := Option.some.inj H
 go_enter Tryz.func197, Tryz.ntmps197
 go_wp2_with (first | ((with_reducible refine gt_ 239 rfl ?_); refine gs_ 7 Tryz.func239 #[.slice A0 l0.length c0, .int .i64 a1] ?_; (with_reducible refine (slices_Index_int_int.calls k _ _ l0 a1 t994 _ ?side1 ?side2 A3.out).mono ?_); (case side1 => repeat (first | exact HR0.out | (with_reducible refine Kd.C_alloc ?_ _) | (with_reducible refine Kd.C_drewN ?_ _) | (with_reducible refine Kd.C_drew ?_))); (case side2 => exact HC0.out); rintro e w' ⟨rfl, ⟨nd, rfl⟩⟩; refine ⟨_, rfl, ?_⟩))
 go_ret
 exact ⟨rs_, dr_⟩
def impl_isLabel.f (a0 : ByteArray) : Option (Bool) := if a0.toList = ([42] : List UInt8) then (some true) else ((impl_within.f (a0.size : Int) 1 20).bind fun t1464 => (if t1464 = true then ((strings_Trim.f a0 (⟨#[97, 98, 99, 100, 101, 102, 103, 104, 105, 106, 107, 108, 109, 110, 111, 112, 113, 114, 115, 116, 117, 118, 119, 120, 121, 122, 48, 49, 50, 51, 52, 53, 54, 55, 56, 57, 45, 95]⟩ : ByteArray)).bind fun t1465 => (some (t1465.toList == ([] : List UInt8)))) else (some false)))
theorem impl_isLabel.calls (a0 : ByteArray) (r : Bool) (w : World) (h : impl_isLabel.f a0 = some r) :
 Calls Tryz.prog 147 #[.string a0] w fun e w' => e = .returned (.bool r) ∧ Below w.heap.size w w' := by
 have HB := a0_ (Below.refl w.heap.size w)
 have H := h
 clear h
 unfold impl_isLabel.f at H
 by_cases c2 : a0.toList = ([42] : List UInt8)
 case pos =>
  rw [if_pos c2] at H
  have c2b0 := beq_iff_eq.mpr c2
  have c2b1 := bne_eq_false_iff_eq.mpr c2
  clear c2
  obtain rfl := Option.some.inj H
  go_enter Tryz.func147, Tryz.ntmps147
  go_wp2
  go_ret
  exact ⟨rr_, bq0_⟩
 rw [if_neg c2] at H
 have c2b0 := beq_eq_false_iff_ne.mpr c2
 have c2b1 := bne_iff_ne.mpr c2
 obtain ⟨t1464, A3, H⟩ := ob_ H
 by_cases c4 : t1464 = true
 case neg =>
  replace c4 := Bool.eq_false_iff.mpr c4
  subst c4
  rw [if_neg ff_] at H
  obtain rfl := Option.some.inj H
  go_enter Tryz.func147, Tryz.ntmps147
  go_wp2_with (first | ((with_reducible refine gt_ 84 rfl ?_); refine gs_ 7 Tryz.func84 #[.int .i64 (a0.size : Int), .int .i64 1, .int .i64 20] ?_; (with_reducible refine (impl_within.calls (a0.size : Int) 1 20 false _ A3.out).mono ?_); rintro e w' ⟨rfl, ⟨nd, rfl⟩⟩; refine ⟨_, rfl, ?_⟩))
  go_ret
  exact ⟨rr_, bq0_⟩
 subst c4
 rw [if_pos rfl] at H
 obtain ⟨t1465, A5, H⟩ := ob_ H
 obtain rfl := Option.some.inj H
 go_enter Tryz.func147, Tryz.ntmps147
 go_wp2_with (first | ((with_reducible refine gt_ 84 rfl ?_); refine gs_ 7 Tryz.func84 #[.int .i64 (a0.size : Int), .int .i64 1, .int .i64 20] ?_; (with_reducible refine (impl_within.calls (a0.size : Int) 1 20 true _ A3.out).mono ?_); rintro e w' ⟨rfl, ⟨nd, rfl⟩⟩; refine ⟨_, rfl, ?_⟩) | (go_at_call 186; (with_reducible refine (strings_Trim.calls a0 (⟨#[97, 98, 99, 100, 101, 102, 103, 104, 105, 106, 107, 108, 109, 110, 111, 112, 113, 114, 115, 116, 117, 118, 119, 120, 121, 122, 48, 49, 50, 51, 52, 53, 54, 55, 56, 57, 45, 95]⟩ : ByteArray) t1465 _ A5.out).mono ?_); rintro e w6 ⟨rfl, hb⟩; replace HB := a0_ (below_step bq0_ hb); clear hb))
 go_ret
 exact ⟨rr_, bq0_⟩
def strings_Contains.f (a0 : ByteArray) (a1 : ByteArray) : Option (Bool) := (strings_Index.f a0 a1).bind fun t241 => (some (decide (t241 ≥ 0)))
theorem strings_Contains.calls (a0 : ByteArray) (a1 : ByteArray) (r : Bool) (w : World) (h : strings_Contains.f a0 a1 = some r) :
 Calls Tryz.prog 151 #[.string a0, .string a1] w fun e w' => e = .returned (.bool r) ∧ Drawn0 w w' := by
 have H := h
 clear h
 unfold strings_Contains.f at H
 obtain ⟨t241, A3, H⟩ := ob_ H
 obtain rfl := Option.some.inj H
 go_enter Tryz.func151, Tryz.ntmps151
 go_wp2_with (first | ((with_reducible refine gt_ 189 rfl ?_); refine gs_ 7 Tryz.func189 #[.string a0, .string a1] ?_; (with_reducible refine (strings_Index.calls a0 a1 t241 _ A3.out).mono ?_); rintro e w' ⟨rfl, ⟨nd, rfl⟩⟩; refine ⟨_, rfl, ?_⟩))
 go_ret
 exact ⟨rs_, dr_⟩
def impl_labelBytes.l0 : Nat → ByteArray → List ByteArray → Int → Int → Option (ByteArray)
 | 0, _, _, _, _ => none
 | k + 1, x3, x7, x8, x9 => if x9 < x8 then (if 0 ≤ x9 then (if x9 < (x7.length : Int) then ((some (([(((rdOf ByteArray.empty x7 x9).size : Int)) % 256] : List Int) : List Int)).bind fun y248 => (if (strOfNums y248).size + (rdOf ByteArray.empty x7 x9).size ≤ 9223372036854775807 then (if x3.size + ((strOfNums y248) ++ (rdOf ByteArray.empty x7 x9)).size ≤ 9223372036854775807 then (impl_labelBytes.l0 k (x3 ++ ((strOfNums y248) ++ (rdOf ByteArray.empty x7 x9))) x7 x8 (wrap64 (x9 + 1))) else (none)) else (none))) else (none)) else (none)) else (some x3)
def impl_labelBytes.f (k : Nat) (a0 : ByteArray) : Option (ByteArray) := (impl_labelsOf.f a0).bind fun t244 => (impl_labelBytes.l0 k (⟨#[]⟩ : ByteArray) t244 (t244.length : Int) 0)
theorem impl_labelBytes.mono_l : ∀ k, (∀ y0 y1 y2 y3, LeO (impl_labelBytes.l0 k y0 y1 y2 y3) (impl_labelBytes.l0 (k + 1) y0 y1 y2 y3))
 | 0 => fun _ _ _ _ r h => by simp [impl_labelBytes.l0] at h
 | k + 1 => by
  have ih0 := impl_labelBytes.mono_l k
  · intro y0 y1 y2 y3
    unfold impl_labelBytes.l0
    repeat' first | (with_reducible first | exact ih0 _ _ _ _ | exact LeO.refl _ | exact LeO.none _ | refine LeO.ite ?_ ?_ | refine LeO.bind ?_ (fun _ => ?_)) | exact LeO.none _ | refine LeO.ite ?_ ?_ | refine LeO.bind ?_ (fun _ => ?_)
theorem impl_labelBytes.mono : ∀ a0 k, LeO (impl_labelBytes.f k a0) (impl_labelBytes.f (k + 1) a0) := by
 intro a0 k
 have ih0 := impl_labelBytes.mono_l k
 unfold impl_labelBytes.f
 repeat' first | (with_reducible first | exact ih0 _ _ _ _ | exact LeO.refl _ | exact LeO.none _ | refine LeO.ite ?_ ?_ | refine LeO.bind ?_ (fun _ => ?_)) | exact LeO.none _ | refine LeO.ite ?_ ?_ | refine LeO.bind ?_ (fun _ => ?_)
theorem impl_labelBytes.calls (k : Nat) (a0 : ByteArray) (r : ByteArray) (w : World) (h : impl_labelBytes.f k a0 = some r) :
 Calls Tryz.prog 91 #[.string a0] w fun e w' => e = .returned (.string r) ∧ Below w.heap.size w w' := by
 have HB := a0_ (Below.refl w.heap.size w)
 have H := h
 clear h
 unfold impl_labelBytes.f at H
 obtain ⟨t244, A2, H⟩ := ob_ H
 have H' := a0_ H
 clear H
 go_enter Tryz.func91, Tryz.ntmps91
 go_wp2_with (first | ((with_reducible refine gt_ 144 rfl ?_); refine gs_ 7 Tryz.func144 #[.string a0] ?_; (with_reducible refine (impl_labelsOf.calls a0 t244 _ A2.out).mono ?_); rintro e w3 ⟨v245, rfl, ho0, hb⟩; refine ⟨_, rfl, ?_⟩; have HO246 := a0_ (Kd.R_lower ho0 (below_size bq0_)); replace HB := a0_ (below_step bq0_ hb); clear hb; (try clear ho0); obtain ⟨Ao4, co4, eo4⟩ := Kd.R_slice HO246.out; subst eo4))
 go_loopg [3, 9] k (fun kq v3 v9 w' => ∃ (x3_1 : ByteArray) (x9_1 : Int), v3 = .string x3_1 ∧ v9 = .int .i64 x9_1 ∧ Aside0 (impl_labelBytes.l0 kq x3_1 t244 (t244.length : Int) x9_1 = some r) ∧ Aside0 (kq ≤ k) ∧ Aside0 (Kd.R Kd.string 9 w' w.heap.size (fun _ => True) (.slice Ao4 t244.length co4) t244) ∧ Aside0 (Below w.heap.size w w'))
 case atStart => exact ⟨((⟨#[]⟩ : ByteArray)), (0), rs_, rs_, H', ⟨Nat.le_refl _⟩, ⟨kR_ HO246.out⟩, ⟨bq0_⟩⟩
 case round =>
  clear H'
  obtain ⟨x3_1, x9_1, rfl, rfl, HA, HK1, HO_7, HB⟩ := hrel
  cases gk with
  | zero => exact absurd HA.out (by simp [impl_labelBytes.l0])
  | succ k1 =>
   have H := HA.out
   clear HA
   simp only [impl_labelBytes.l0] at H
   by_cases c5 : x9_1 < (t244.length : Int)
   case neg =>
    rw [if_neg c5] at H
    have c5b0 := decide_eq_false c5
    clear c5
    obtain rfl := Option.some.inj H
    go_wp2
    go_ret
    exact ⟨rr_, bq0_⟩
   rw [if_pos c5] at H
   have c5b0 := decide_eq_true c5
   clear c5
   by_cases c6 : 0 ≤ x9_1
   case neg =>
    rw [if_neg c6] at H
    exact absurd H (by simp)
   rw [if_pos c6] at H
   have c6b0 := decide_eq_true c6
   clear c6
   by_cases c7 : x9_1 < (t244.length : Int)
   case neg =>
    rw [if_neg c7] at H
    exact absurd H (by simp)
   rw [if_pos c7] at H
   have c7b0 := decide_eq_true c7
   clear c7
   obtain ⟨y248, hy248⟩ : ∃ y_ : List Int, y_ = (([(((rdOf ByteArray.empty t244 x9_1).size : Int)) % 256] : List Int)) := ⟨_, rfl⟩
   replace H := by_ hy248 H
   have Ny248 := a0_ hy248
   clear hy248
   by_cases c8 : (strOfNums y248).size + (rdOf ByteArray.empty t244 x9_1).size ≤ 9223372036854775807
   case neg =>
    rw [if_neg c8] at H
    exact absurd H (by simp)
   rw [if_pos c8] at H
   have c8b0 := eq_true c8
   have c8b1 := decide_eq_true c8
   try have c8b2 : (9223372036854775807 < (strOfNums y248).size + (rdOf ByteArray.empty t244 x9_1).size) = False := eq_false (Nat.not_lt.2 c8)
   by_cases c9 : x3_1.size + ((strOfNums y248) ++ (rdOf ByteArray.empty t244 x9_1)).size ≤ 9223372036854775807
   case neg =>
    rw [if_neg c9] at H
    exact absurd H (by simp)
   rw [if_pos c9] at H
   have c9b0 := eq_true c9
   have c9b1 := decide_eq_true c9
   try have c9b2 : (9223372036854775807 < x3_1.size + ((strOfNums y248) ++ (rdOf ByteArray.empty t244 x9_1)).size) = False := eq_false (Nat.not_lt.2 c9)
   have H' := a0_ H
   clear H
   have p247 := t0_ (x9_1)
   have q247 := tl_ (x9_1) (t244.length)
   obtain ⟨ad247, e247, hx247_0⟩ := Kd.at_string (Kd.R_reads' HO_7.out).2.2 x9_1 (of_eq_true p247) (of_eq_true q247)
   cases e247
   go_wp2_with (first | ((with_reducible refine gate_dst (N := 17) rfl ?_); refine Kd.R_lit (Kd.int .u8) _ 5 ?hg (N := 17) ?hd (xs := ([(((rdOf ByteArray.empty t244 x9_1).size : Int)) % 256] : List Int)) (inner := [.int .u8 ((((rdOf ByteArray.empty t244 x9_1).size : Int)) % 256)]) (ok := fun _ => True) (okp := fun _ => True) ?hr ?hp (fun _ hk => hk) trivial (Below.refl _ _) (Nat.le_refl _) (by simp) ?_; (case hd => rfl); (case hg => rfl); (case hr => first | (go_simp; done) | (go_simp; rfl)); (case hp => exact (Reps.one (show Kd.M (Kd.int .u8) _ _ _ ((((rdOf ByteArray.empty t244 x9_1).size : Int)) % 256) [.int .u8 ((((rdOf ByteArray.empty t244 x9_1).size : Int)) % 256)] from rfl) (Reps.none _ _))); intro v249 w10 ho11 hb hg_ hnew_; clear hg_ hnew_; (first | rw [← Ny248.out] at ho11 | (simp only [Int.reduceToNat] at ho11; rw [← Ny248.out] at ho11)); replace HO_7 := a0_ (Kd.R_below (kR_ HO_7.out) hb); have HO250 := a0_ (Kd.R_lower ho11 (below_size bq0_)); replace HB := a0_ (below_step bq0_ hb); clear hb ho11; have hcv12 := own_string (P := Tryz.prog) Tryz.underlying43 Tryz.underlying5 Tryz.underlying9 (Kd.own_of_R HO250.out)))
   go_roundg k1
   case measure => have := HK1.out; omega
   case rel => exact ⟨(x3_1 ++ ((strOfNums y248) ++ (rdOf ByteArray.empty t244 x9_1))), (wrap64 (x9_1 + 1)), rs_, rs_, H', jl_ HK1, ⟨kR_ HO_7.out⟩, ⟨bq0_⟩⟩
def strings_Cut.f (a0 : ByteArray) (a1 : ByteArray) : Option (ByteArray × ByteArray × Bool) := (stringslite_Cut.f a0 a1).bind fun bt252 => (some (bt252.1, bt252.2.1, bt252.2.2))
theorem strings_Cut.calls (a0 : ByteArray) (a1 : ByteArray) (r1 : ByteArray) (r2 : ByteArray) (r3 : Bool) (w : World) (h : strings_Cut.f a0 a1 = some (r1, r2, r3)) :
 Calls Tryz.prog 92 #[.string a0, .string a1] w fun e w' => e = .returned (.tuple #[.string r1, .string r2, .bool r3]) ∧ Drawn0 w w' := by
 have H := h
 clear h
 unfold strings_Cut.f at H
 obtain ⟨⟨t252, t253, t254⟩, A3, H⟩ := ob_ H
 simp only [Option.some.injEq, Prod.mk.injEq] at H
 obtain ⟨rfl, rfl, rfl⟩ := H
 go_enter Tryz.func92, Tryz.ntmps92
 go_wp2_with (first | ((with_reducible refine gt_ 152 rfl ?_); refine gs_ 9 Tryz.func152 #[.string a0, .string a1] ?_; (with_reducible refine (stringslite_Cut.calls a0 a1 t252 t253 t254 _ A3.out).mono ?_); rintro e w' ⟨rfl, ⟨nd, rfl⟩⟩; refine ⟨_, rfl, ?_⟩))
 go_ret3
 exact ⟨rs_, dr_⟩
def spec_l1Label.l0 : Nat → ByteArray → Int → Option (Bool)
 | 0, _, _ => none
 | k + 1, x0, x3 => if x3 < (x0.size : Int) then (if 0 ≤ x3 then (if (bt x0 x3) ≥ 97 then (if (bt x0 x3) ≤ 122 then (spec_l1Label.l0 k x0 (wrap64 (x3 + 1))) else (if (bt x0 x3) ≥ 48 then (if (bt x0 x3) ≤ 57 then (spec_l1Label.l0 k x0 (wrap64 (x3 + 1))) else (if (bt x0 x3) = 45 then (spec_l1Label.l0 k x0 (wrap64 (x3 + 1))) else (if ((bt x0 x3) = 95) then (spec_l1Label.l0 k x0 (wrap64 (x3 + 1))) else (some false)))) else (if (bt x0 x3) = 45 then (spec_l1Label.l0 k x0 (wrap64 (x3 + 1))) else (if ((bt x0 x3) = 95) then (spec_l1Label.l0 k x0 (wrap64 (x3 + 1))) else (some false))))) else (if (bt x0 x3) ≥ 48 then (if (bt x0 x3) ≤ 57 then (spec_l1Label.l0 k x0 (wrap64 (x3 + 1))) else (if (bt x0 x3) = 45 then (spec_l1Label.l0 k x0 (wrap64 (x3 + 1))) else (if ((bt x0 x3) = 95) then (spec_l1Label.l0 k x0 (wrap64 (x3 + 1))) else (some false)))) else (if (bt x0 x3) = 45 then (spec_l1Label.l0 k x0 (wrap64 (x3 + 1))) else (if ((bt x0 x3) = 95) then (spec_l1Label.l0 k x0 (wrap64 (x3 + 1))) else (some false))))) else (none)) else ((spec_l1In.f (x0.size : Int) 1 20).bind fun t114 => (some t114))
def spec_l1Label.f (k : Nat) (a0 : ByteArray) : Option (Bool) := if a0.toList = ([42] : List UInt8) then (some true) else (spec_l1Label.l0 k a0 0)
theorem spec_l1Label.mono_l : ∀ k, (∀ y0 y1, LeO (spec_l1Label.l0 k y0 y1) (spec_l1Label.l0 (k + 1) y0 y1))
 | 0 => fun _ _ r h => by simp [spec_l1Label.l0] at h
 | k + 1 => by
  have ih0 := spec_l1Label.mono_l k
  · intro y0 y1
    unfold spec_l1Label.l0
    repeat' first | (with_reducible first | exact ih0 _ _ | exact LeO.refl _ | exact LeO.none _ | refine LeO.ite ?_ ?_ | refine LeO.bind ?_ (fun _ => ?_)) | exact LeO.none _ | refine LeO.ite ?_ ?_ | refine LeO.bind ?_ (fun _ => ?_)
theorem spec_l1Label.mono : ∀ a0 k, LeO (spec_l1Label.f k a0) (spec_l1Label.f (k + 1) a0) := by
 intro a0 k
 have ih0 := spec_l1Label.mono_l k
 unfold spec_l1Label.f
 repeat' first | (with_reducible first | exact ih0 _ _ | exact LeO.refl _ | exact LeO.none _ | refine LeO.ite ?_ ?_ | refine LeO.bind ?_ (fun _ => ?_)) | exact LeO.none _ | refine LeO.ite ?_ ?_ | refine LeO.bind ?_ (fun _ => ?_)
theorem spec_l1Label.calls (k : Nat) (a0 : ByteArray) (r : Bool) (w : World) (h : spec_l1Label.f k a0 = some r) :
 Calls Tryz.prog 200 #[.string a0] w fun e w' => e = .returned (.bool r) ∧ Drawn0 w w' := by
 have H := h
 clear h
 unfold spec_l1Label.f at H
 by_cases c2 : a0.toList = ([42] : List UInt8)
 case pos =>
  rw [if_pos c2] at H
  have c2b0 := beq_iff_eq.mpr c2
  have c2b1 := bne_eq_false_iff_eq.mpr c2
  clear c2
  obtain rfl := Option.some.inj H
  go_enter Tryz.func200, Tryz.ntmps200
  go_wp2
  go_ret
  exact ⟨rs_, dr_⟩
 rw [if_neg c2] at H
 have c2b0 := beq_eq_false_iff_ne.mpr c2
 have c2b1 := bne_iff_ne.mpr c2
 have H' := a0_ H
 clear H
 go_enter Tryz.func200, Tryz.ntmps200
 go_wp2
 go_loopg [3] k (fun kq v3 w' => ∃ (x3_1 : Int), v3 = .int .i64 x3_1 ∧ Aside0 (spec_l1Label.l0 kq a0 x3_1 = some r) ∧ Aside0 (kq ≤ k) ∧ Drawn0 w w')
 case atStart => exact ⟨(0), rs_, H', ⟨Nat.le_refl _⟩, dr_⟩
 case round =>
  clear H'
  try clear c2
  try clear c2b0
  try clear c2b1
  obtain ⟨x3_1, rfl, HA, HK1, ⟨m1, rfl⟩⟩ := hrel
  cases gk with
  | zero => exact absurd HA.out (by simp [spec_l1Label.l0])
  | succ k1 =>
   have H := HA.out
   clear HA
   simp only [spec_l1Label.l0] at H
   by_cases c3 : x3_1 < (a0.size : Int)
   case neg =>
    rw [if_neg c3] at H
    have c3b0 := decide_eq_false c3
    clear c3
    obtain ⟨t114, A20, H⟩ := ob_ H
    obtain rfl := Option.some.inj H
    go_wp2_with (first | ((with_reducible refine gt_ 102 rfl ?_); refine gs_ 41 Tryz.func102 #[.int .i64 (a0.size : Int), .int .i64 1, .int .i64 20] ?_; (with_reducible refine (spec_l1In.calls (a0.size : Int) 1 20 t114 _ A20.out).mono ?_); rintro e w' ⟨rfl, ⟨nd, rfl⟩⟩; refine ⟨_, rfl, ?_⟩))
    go_ret
    exact ⟨rs_, dr_⟩
   rw [if_pos c3] at H
   have c3b0 := decide_eq_true c3
   clear c3
   by_cases c4 : 0 ≤ x3_1
   case neg =>
    rw [if_neg c4] at H
    exact absurd H (by simp)
   rw [if_pos c4] at H
   have c4b0 := decide_eq_true c4
   clear c4
   by_cases c6 : (bt a0 x3_1) ≥ 97
   case neg =>
    rw [if_neg c6] at H
    have c6b0 := decide_eq_false c6
    clear c6
    by_cases c14 : (bt a0 x3_1) ≥ 48
    case neg =>
     rw [if_neg c14] at H
     have c14b0 := decide_eq_false c14
     clear c14
     by_cases c18 : (bt a0 x3_1) = 45
     case pos =>
      rw [if_pos c18] at H
      have c18b0 := beq_iff_eq.mpr c18
      have c18b1 := bne_eq_false_iff_eq.mpr c18
      clear c18
      have H' := a0_ H
      clear H
      have p5 := t0_ (x3_1)
      have q5 := tl_ (x3_1) (a0.size)
      have hx5 := bt_at a0 x3_1
      go_wp2
      go_roundg k1
      case measure => have := HK1.out; omega
      case rel => exact ⟨(wrap64 (x3_1 + 1)), rs_, H', jl_ HK1, dr_⟩
     rw [if_neg c18] at H
     have c18b0 := beq_eq_false_iff_ne.mpr c18
     have c18b1 := bne_iff_ne.mpr c18
     by_cases c19 : ((bt a0 x3_1) = 95)
     case neg =>
      rw [if_neg c19] at H
      have c19b0 := beq_eq_false_iff_ne.mpr c19
      have c19b1 := bne_iff_ne.mpr c19
      obtain rfl := Option.some.inj H
      have p5 := t0_ (x3_1)
      have q5 := tl_ (x3_1) (a0.size)
      have hx5 := bt_at a0 x3_1
      go_wp2
      go_ret
      exact ⟨rs_, dr_⟩
     rw [if_pos c19] at H
     have c19b0 := beq_iff_eq.mpr c19
     have c19b1 := bne_eq_false_iff_eq.mpr c19
     clear c19
     have H' := a0_ H
     clear H
     have p5 := t0_ (x3_1)
     have q5 := tl_ (x3_1) (a0.size)
     have hx5 := bt_at a0 x3_1
     go_wp2
     go_roundg k1
     case measure => have := HK1.out; omega
     case rel => exact ⟨(wrap64 (x3_1 + 1)), rs_, H', jl_ HK1, dr_⟩
    rw [if_pos c14] at H
    have c14b0 := decide_eq_true c14
    clear c14
    by_cases c15 : (bt a0 x3_1) ≤ 57
    case pos =>
     rw [if_pos c15] at H
     have c15b0 := decide_eq_true c15
     clear c15
     have H' := a0_ H
     clear H
     have p5 := t0_ (x3_1)
     have q5 := tl_ (x3_1) (a0.size)
     have hx5 := bt_at a0 x3_1
     go_wp2
     go_roundg k1
     case measure => have := HK1.out; omega
     case rel => exact ⟨(wrap64 (x3_1 + 1)), rs_, H', jl_ HK1, dr_⟩
    rw [if_neg c15] at H
    have c15b0 := decide_eq_false c15
    clear c15
    by_cases c16 : (bt a0 x3_1) = 45
    case pos =>
     rw [if_pos c16] at H
     have c16b0 := beq_iff_eq.mpr c16
     have c16b1 := bne_eq_false_iff_eq.mpr c16
     clear c16
     have H' := a0_ H
     clear H
     have p5 := t0_ (x3_1)
     have q5 := tl_ (x3_1) (a0.size)
     have hx5 := bt_at a0 x3_1
     go_wp2
     go_roundg k1
     case measure => have := HK1.out; omega
     case rel => exact ⟨(wrap64 (x3_1 + 1)), rs_, H', jl_ HK1, dr_⟩
    rw [if_neg c16] at H
    have c16b0 := beq_eq_false_iff_ne.mpr c16
    have c16b1 := bne_iff_ne.mpr c16
    by_cases c17 : ((bt a0 x3_1) = 95)
    case neg =>
     rw [if_neg c17] at H
     have c17b0 := beq_eq_false_iff_ne.mpr c17
     have c17b1 := bne_iff_ne.mpr c17
     obtain rfl := Option.some.inj H
     have p5 := t0_ (x3_1)
     have q5 := tl_ (x3_1) (a0.size)
     have hx5 := bt_at a0 x3_1
     go_wp2
     go_ret
     exact ⟨rs_, dr_⟩
    rw [if_pos c17] at H
    have c17b0 := beq_iff_eq.mpr c17
    have c17b1 := bne_eq_false_iff_eq.mpr c17
    clear c17
    have H' := a0_ H
    clear H
    have p5 := t0_ (x3_1)
    have q5 := tl_ (x3_1) (a0.size)
    have hx5 := bt_at a0 x3_1
    go_wp2
    go_roundg k1
    case measure => have := HK1.out; omega
    case rel => exact ⟨(wrap64 (x3_1 + 1)), rs_, H', jl_ HK1, dr_⟩
   rw [if_pos c6] at H
   have c6b0 := decide_eq_true c6
   clear c6
   by_cases c7 : (bt a0 x3_1) ≤ 122
   case pos =>
    rw [if_pos c7] at H
    have c7b0 := decide_eq_true c7
    clear c7
    have H' := a0_ H
    clear H
    have p5 := t0_ (x3_1)
    have q5 := tl_ (x3_1) (a0.size)
    have hx5 := bt_at a0 x3_1
    go_wp2
    go_roundg k1
    case measure => have := HK1.out; omega
    case rel => exact ⟨(wrap64 (x3_1 + 1)), rs_, H', jl_ HK1, dr_⟩
   rw [if_neg c7] at H
   have c7b0 := decide_eq_false c7
   clear c7
   by_cases c8 : (bt a0 x3_1) ≥ 48
   case neg =>
    rw [if_neg c8] at H
    have c8b0 := decide_eq_false c8
    clear c8
    by_cases c12 : (bt a0 x3_1) = 45
    case pos =>
     rw [if_pos c12] at H
     have c12b0 := beq_iff_eq.mpr c12
     have c12b1 := bne_eq_false_iff_eq.mpr c12
     clear c12
     have H' := a0_ H
     clear H
     have p5 := t0_ (x3_1)
     have q5 := tl_ (x3_1) (a0.size)
     have hx5 := bt_at a0 x3_1
     go_wp2
     go_roundg k1
     case measure => have := HK1.out; omega
     case rel => exact ⟨(wrap64 (x3_1 + 1)), rs_, H', jl_ HK1, dr_⟩
    rw [if_neg c12] at H
    have c12b0 := beq_eq_false_iff_ne.mpr c12
    have c12b1 := bne_iff_ne.mpr c12
    by_cases c13 : ((bt a0 x3_1) = 95)
    case neg =>
     rw [if_neg c13] at H
     have c13b0 := beq_eq_false_iff_ne.mpr c13
     have c13b1 := bne_iff_ne.mpr c13
     obtain rfl := Option.some.inj H
     have p5 := t0_ (x3_1)
     have q5 := tl_ (x3_1) (a0.size)
     have hx5 := bt_at a0 x3_1
     go_wp2
     go_ret
     exact ⟨rs_, dr_⟩
    rw [if_pos c13] at H
    have c13b0 := beq_iff_eq.mpr c13
    have c13b1 := bne_eq_false_iff_eq.mpr c13
    clear c13
    have H' := a0_ H
    clear H
    have p5 := t0_ (x3_1)
    have q5 := tl_ (x3_1) (a0.size)
    have hx5 := bt_at a0 x3_1
    go_wp2
    go_roundg k1
    case measure => have := HK1.out; omega
    case rel => exact ⟨(wrap64 (x3_1 + 1)), rs_, H', jl_ HK1, dr_⟩
   rw [if_pos c8] at H
   have c8b0 := decide_eq_true c8
   clear c8
   by_cases c9 : (bt a0 x3_1) ≤ 57
   case pos =>
    rw [if_pos c9] at H
    have c9b0 := decide_eq_true c9
    clear c9
    have H' := a0_ H
    clear H
    have p5 := t0_ (x3_1)
    have q5 := tl_ (x3_1) (a0.size)
    have hx5 := bt_at a0 x3_1
    go_wp2
    go_roundg k1
    case measure => have := HK1.out; omega
    case rel => exact ⟨(wrap64 (x3_1 + 1)), rs_, H', jl_ HK1, dr_⟩
   rw [if_neg c9] at H
   have c9b0 := decide_eq_false c9
   clear c9
   by_cases c10 : (bt a0 x3_1) = 45
   case pos =>
    rw [if_pos c10] at H
    have c10b0 := beq_iff_eq.mpr c10
    have c10b1 := bne_eq_false_iff_eq.mpr c10
    clear c10
    have H' := a0_ H
    clear H
    have p5 := t0_ (x3_1)
    have q5 := tl_ (x3_1) (a0.size)
    have hx5 := bt_at a0 x3_1
    go_wp2
    go_roundg k1
    case measure => have := HK1.out; omega
    case rel => exact ⟨(wrap64 (x3_1 + 1)), rs_, H', jl_ HK1, dr_⟩
   rw [if_neg c10] at H
   have c10b0 := beq_eq_false_iff_ne.mpr c10
   have c10b1 := bne_iff_ne.mpr c10
   by_cases c11 : ((bt a0 x3_1) = 95)
   case neg =>
    rw [if_neg c11] at H
    have c11b0 := beq_eq_false_iff_ne.mpr c11
    have c11b1 := bne_iff_ne.mpr c11
    obtain rfl := Option.some.inj H
    have p5 := t0_ (x3_1)
    have q5 := tl_ (x3_1) (a0.size)
    have hx5 := bt_at a0 x3_1
    go_wp2
    go_ret
    exact ⟨rs_, dr_⟩
   rw [if_pos c11] at H
   have c11b0 := beq_iff_eq.mpr c11
   have c11b1 := bne_eq_false_iff_eq.mpr c11
   clear c11
   have H' := a0_ H
   clear H
   have p5 := t0_ (x3_1)
   have q5 := tl_ (x3_1) (a0.size)
   have hx5 := bt_at a0 x3_1
   go_wp2
   go_roundg k1
   case measure => have := HK1.out; omega
   case rel => exact ⟨(wrap64 (x3_1 + 1)), rs_, H', jl_ HK1, dr_⟩
def slices_Compare_string_string.l0 : Nat → List ByteArray → List ByteArray → List ByteArray → Int → Int → Option (Int)
 | 0, _, _, _, _, _ => none
 | k + 1, x0, x1, x9, x10, x11 => if x11 < x10 then (if 0 ≤ x11 then (if x11 < (x9.length : Int) then (if x11 ≥ (x1.length : Int) then (some 1) else (if x11 < (x1.length : Int) then ((cmp_Compare_string.f (rdOf ByteArray.empty x9 x11) (rdOf ByteArray.empty x1 x11)).bind fun t377 => (if t377 = 0 then (slices_Compare_string_string.l0 k x0 x1 x9 x10 (wrap64 (x11 + 1))) else (some t377))) else (none))) else (none)) else (none)) else (if (x0.length : Int) < (x1.length : Int) then (some (-1)) else (some 0))
def slices_Compare_string_string.f (k : Nat) (l0 : List ByteArray) (l1 : List ByteArray) : Option (Int) := slices_Compare_string_string.l0 k l0 l1 l0 (l0.length : Int) 0
theorem slices_Compare_string_string.calls (k : Nat) (A0 : Option Addr) (c0 : Nat) (l0 : List ByteArray) (A1 : Option Addr) (c1 : Nat) (l1 : List ByteArray) (r : Int) (w : World) (hr0 : Kd.C Kd.string w A0 l0.length l0) (hc0 : l0.length ≤ c0) (hr1 : Kd.C Kd.string w A1 l1.length l1) (hc1 : l1.length ≤ c1) (h : slices_Compare_string_string.f k l0 l1 = some r) :
 Calls Tryz.prog 178 #[.slice A0 l0.length c0, .slice A1 l1.length c1] w fun e w' => e = .returned (.int .i64 r) ∧ Drawn0 w w' := by
 have HR0 := a0_ hr0
 have HC0 := a0_ hc0
 clear hr0 hc0
 have HR1 := a0_ hr1
 have HC1 := a0_ hc1
 clear hr1 hc1
 have H := h
 clear h
 unfold slices_Compare_string_string.f at H
 have H' := a0_ H
 clear H
 go_enter Tryz.func178, Tryz.ntmps178
 go_wp2
 go_loopg [11] k (fun kq v11 w' => ∃ (x11_1 : Int), v11 = .int .i64 x11_1 ∧ Aside0 (slices_Compare_string_string.l0 kq l0 l1 l0 (l0.length : Int) x11_1 = some r) ∧ Aside0 (kq ≤ k) ∧ Drawn0 w w')
 case atStart => exact ⟨(0), rs_, H', ⟨Nat.le_refl _⟩, dr_⟩
 case round =>
  clear H'
  try clear c1
  obtain ⟨x11_1, rfl, HA, HK1, ⟨m1, rfl⟩⟩ := hrel
  cases gk with
  | zero => exact absurd HA.out (by simp [slices_Compare_string_string.l0])
  | succ k1 =>
   have H := HA.out
   clear HA
   simp only [slices_Compare_string_string.l0] at H
   by_cases c3 : x11_1 < (l0.length : Int)
   case neg =>
    rw [if_neg c3] at H
    have c3b0 := decide_eq_false c3
    clear c3
    by_cases c10 : (l0.length : Int) < (l1.length : Int)
    case neg =>
     rw [if_neg c10] at H
     have c10b0 := decide_eq_false c10
     have c10b1 : decide (l0.length < l1.length) = false := decide_eq_false (fun h => c10 (Int.ofNat_lt.mpr h))
     clear c10
     obtain rfl := Option.some.inj H
     go_wp2
     go_ret
     exact ⟨rs_, dr_⟩
    rw [if_pos c10] at H
    have c10b0 := decide_eq_true c10
    have c10b1 : decide (l0.length < l1.length) = true := decide_eq_true (Int.ofNat_lt.mp c10)
    clear c10
    obtain rfl := Option.some.inj H
    go_wp2
    go_ret
    exact ⟨rs_, dr_⟩
   rw [if_pos c3] at H
   have c3b0 := decide_eq_true c3
   clear c3
   by_cases c4 : 0 ≤ x11_1
   case neg =>
    rw [if_neg c4] at H
    exact absurd H (by simp)
   rw [if_pos c4] at H
   have c4b0 := decide_eq_true c4
   clear c4
   by_cases c5 : x11_1 < (l0.length : Int)
   case neg =>
    rw [if_neg c5] at H
    exact absurd H (by simp)
   rw [if_pos c5] at H
   have c5b0 := decide_eq_true c5
   clear c5
   by_cases c6 : x11_1 ≥ (l1.length : Int)
   case pos =>
    rw [if_pos c6] at H
    have c6b0 := decide_eq_true c6
    clear c6
    obtain rfl := Option.some.inj H
    have p375 := t0_ (x11_1)
    have q375 := tl_ (x11_1) (l0.length)
    obtain ⟨ad375, e375, hx375_0⟩ := Kd.at_string HR0.out x11_1 (of_eq_true p375) (of_eq_true q375)
    cases e375
    go_wp2
    go_ret
    exact ⟨rs_, dr_⟩
   rw [if_neg c6] at H
   have c6b0 := decide_eq_false c6
   clear c6
   by_cases c7 : x11_1 < (l1.length : Int)
   case neg =>
    rw [if_neg c7] at H
    exact absurd H (by simp)
   rw [if_pos c7] at H
   have c7b0 := decide_eq_true c7
   clear c7
   obtain ⟨t377, A8, H⟩ := ob_ H
   by_cases c9 : t377 = 0
   case neg =>
    rw [if_neg c9] at H
    have c9b0 := beq_eq_false_iff_ne.mpr c9
    have c9b1 := bne_iff_ne.mpr c9
    obtain rfl := Option.some.inj H
    have p375 := t0_ (x11_1)
    have q375 := tl_ (x11_1) (l0.length)
    obtain ⟨ad375, e375, hx375_0⟩ := Kd.at_string HR0.out x11_1 (of_eq_true p375) (of_eq_true q375)
    cases e375
    have p376 := t0_ (x11_1)
    have q376 := tl_ (x11_1) (l1.length)
    obtain ⟨ad376, e376, hx376_0⟩ := Kd.at_string HR1.out x11_1 (of_eq_true p376) (of_eq_true q376)
    cases e376
    go_wp2_with (first | ((with_reducible refine gt_ 208 rfl ?_); refine gs_ 26 Tryz.func208 #[.string (rdOf ByteArray.empty l0 x11_1), .string (rdOf ByteArray.empty l1 x11_1)] ?_; (with_reducible refine (cmp_Compare_string.calls (rdOf ByteArray.empty l0 x11_1) (rdOf ByteArray.empty l1 x11_1) t377 _ A8.out).mono ?_); rintro e w' ⟨rfl, ⟨nd, rfl⟩⟩; refine ⟨_, rfl, ?_⟩))
    go_ret
    exact ⟨rs_, dr_⟩
   rw [if_pos c9] at H
   have c9b0 := beq_iff_eq.mpr c9
   have c9b1 := bne_eq_false_iff_eq.mpr c9
   clear c9
   have H' := a0_ H
   clear H
   have p375 := t0_ (x11_1)
   have q375 := tl_ (x11_1) (l0.length)
   obtain ⟨ad375, e375, hx375_0⟩ := Kd.at_string HR0.out x11_1 (of_eq_true p375) (of_eq_true q375)
   cases e375
   have p376 := t0_ (x11_1)
   have q376 := tl_ (x11_1) (l1.length)
   obtain ⟨ad376, e376, hx376_0⟩ := Kd.at_string HR1.out x11_1 (of_eq_true p376) (of_eq_true q376)
   cases e376
   go_wp2_with (first | ((with_reducible refine gt_ 208 rfl ?_); refine gs_ 26 Tryz.func208 #[.string (rdOf ByteArray.empty l0 x11_1), .string (rdOf ByteArray.empty l1 x11_1)] ?_; (with_reducible refine (cmp_Compare_string.calls (rdOf ByteArray.empty l0 x11_1) (rdOf ByteArray.empty l1 x11_1) t377 _ A8.out).mono ?_); rintro e w' ⟨rfl, ⟨nd, rfl⟩⟩; refine ⟨_, rfl, ?_⟩))
   go_roundg k1
   case measure => have := HK1.out; omega
   case rel => exact ⟨(wrap64 (x11_1 + 1)), rs_, H', jl_ HK1, dr_⟩
def laws_szRecordS.l0 : Nat → List (S91) → Int → Int → Option (Int)
 | 0, _, _, _ => none
 | k + 1, x0, x1, x5 => if x5 < (x0.length : Int) then (if 0 ≤ x5 then ((laws_szRecord.f ((rd_T91 x0 x5).f0) ((rd_T91 x0 x5).f1) ((rd_T91 x0 x5).f2) ((rd_T91 x0 x5).f3) x1).bind fun t491 => (if t491 < 0 then (some (-1)) else (laws_szRecordS.l0 k x0 t491 (wrap64 (x5 + 1))))) else (none)) else (some x1)
def laws_szRecordS.f (k : Nat) (l0 : List (S91)) (a1 : Int) : Option (Int) := if (wrap64 (a1 - (l0.length : Int))) < 0 then (some (-1)) else (laws_szRecordS.l0 k l0 (wrap64 (a1 - (l0.length : Int))) 0)
theorem laws_szRecordS.calls (k : Nat) (A0 : Option Addr) (c0 : Nat) (l0 : List (S91)) (a1 : Int) (r : Int) (w : World) (hr0 : Kd.C k91 w A0 l0.length l0) (hc0 : l0.length ≤ c0) (h : laws_szRecordS.f k l0 a1 = some r) :
 Calls Tryz.prog 21 #[.slice A0 l0.length c0, .int .i64 a1] w fun e w' => e = .returned (.int .i64 r) ∧ Below w.heap.size w w' := by
 have hu91 := Tryz.underlying91
 have HR0 := a0_ hr0
 have HC0 := a0_ hc0
 clear hr0 hc0
 have HB := a0_ (Below.refl w.heap.size w)
 have H := h
 clear h
 unfold laws_szRecordS.f at H
 by_cases c3 : (wrap64 (a1 - (l0.length : Int))) < 0
 case pos =>
  rw [if_pos c3] at H
  have c3b0 := decide_eq_true c3
  clear c3
  obtain rfl := Option.some.inj H
  go_enter Tryz.func21, Tryz.ntmps21
  go_wp2
  go_ret
  exact ⟨rr_, bq0_⟩
 rw [if_neg c3] at H
 have c3b0 := decide_eq_false c3
 clear c3
 have H' := a0_ H
 clear H
 go_enter Tryz.func21, Tryz.ntmps21
 go_wp2
 go_loopg [1, 5] k (fun kq v1 v5 w' => ∃ (x1_1 : Int) (x5_1 : Int), v1 = .int .i64 x1_1 ∧ v5 = .int .i64 x5_1 ∧ Aside0 (laws_szRecordS.l0 kq l0 x1_1 x5_1 = some r) ∧ Aside0 (kq ≤ k) ∧ Aside0 (Below w.heap.size w w'))
 case atStart => exact ⟨(wrap64 (a1 - (l0.length : Int))), (0), rs_, rs_, H', ⟨Nat.le_refl _⟩, ⟨bq0_⟩⟩
 case round =>
  clear H'
  try clear c3
  try clear c3b0
  obtain ⟨x1_1, x5_1, rfl, rfl, HA, HK1, HB⟩ := hrel
  cases gk with
  | zero => exact absurd HA.out (by simp [laws_szRecordS.l0])
  | succ k1 =>
   have H := HA.out
   clear HA
   simp only [laws_szRecordS.l0] at H
   by_cases c4 : x5_1 < (l0.length : Int)
   case neg =>
    rw [if_neg c4] at H
    have c4b0 := decide_eq_false c4
    clear c4
    obtain rfl := Option.some.inj H
    go_wp2
    go_ret
    exact ⟨rr_, bq0_⟩
   rw [if_pos c4] at H
   have c4b0 := decide_eq_true c4
   clear c4
   by_cases c5 : 0 ≤ x5_1
   case neg =>
    rw [if_neg c5] at H
    exact absurd H (by simp)
   rw [if_pos c5] at H
   have c5b0 := decide_eq_true c5
   clear c5
   obtain ⟨t491, A6, H⟩ := ob_ H
   by_cases c7 : t491 < 0
   case pos =>
    rw [if_pos c7] at H
    have c7b0 := decide_eq_true c7
    clear c7
    obtain rfl := Option.some.inj H
    have p490 := t0_ (x5_1)
    have q490 := tl_ (x5_1) (l0.length)
    obtain ⟨ad490, e490, -, -, -, -, hx490_0, hx490_1, hx490_2, hx490_3⟩ := rp_ HB (at_T91 HR0.out x5_1 (of_eq_true p490) (of_eq_true q490))
    cases e490
    go_wp2_with (first | ((with_reducible refine gt_ 71 rfl ?_); refine gs_ 23 Tryz.func71 #[.agg #[.string ((rd_T91 l0 x5_1).f0), .int .i64 ((rd_T91 l0 x5_1).f1), .int .i64 ((rd_T91 l0 x5_1).f2), .string ((rd_T91 l0 x5_1).f3)], .int .i64 x1_1] ?_; (with_reducible refine (laws_szRecord.calls ((rd_T91 l0 x5_1).f0) ((rd_T91 l0 x5_1).f1) ((rd_T91 l0 x5_1).f2) ((rd_T91 l0 x5_1).f3) x1_1 t491 _ A6.out).mono ?_); rintro e w8 ⟨rfl, hb⟩; refine ⟨_, rfl, ?_⟩; replace HB := a0_ (below_step bq0_ hb); clear hb))
    go_ret
    exact ⟨rr_, bq0_⟩
   rw [if_neg c7] at H
   have c7b0 := decide_eq_false c7
   clear c7
   have H' := a0_ H
   clear H
   have p490 := t0_ (x5_1)
   have q490 := tl_ (x5_1) (l0.length)
   obtain ⟨ad490, e490, -, -, -, -, hx490_0, hx490_1, hx490_2, hx490_3⟩ := rp_ HB (at_T91 HR0.out x5_1 (of_eq_true p490) (of_eq_true q490))
   cases e490
   go_wp2_with (first | ((with_reducible refine gt_ 71 rfl ?_); refine gs_ 23 Tryz.func71 #[.agg #[.string ((rd_T91 l0 x5_1).f0), .int .i64 ((rd_T91 l0 x5_1).f1), .int .i64 ((rd_T91 l0 x5_1).f2), .string ((rd_T91 l0 x5_1).f3)], .int .i64 x1_1] ?_; (with_reducible refine (laws_szRecord.calls ((rd_T91 l0 x5_1).f0) ((rd_T91 l0 x5_1).f1) ((rd_T91 l0 x5_1).f2) ((rd_T91 l0 x5_1).f3) x1_1 t491 _ A6.out).mono ?_); rintro e w9 ⟨rfl, hb⟩; refine ⟨_, rfl, ?_⟩; replace HB := a0_ (below_step bq0_ hb); clear hb))
   go_roundg k1
   case measure => have := HK1.out; omega
   case rel => exact ⟨(t491), (wrap64 (x5_1 + 1)), rs_, rs_, H', jl_ HK1, ⟨bq0_⟩⟩
def laws_toRecordS.l0 : Nat → List (S91) → List (S45) → Int → Option ((List (S45)))
 | 0, _, _, _ => none
 | k + 1, x0, x3, x4 => if x4 < (x0.length : Int) then (if 0 ≤ x4 then ((laws_toRecord.f ((rd_T91 x0 x4).f0) ((rd_T91 x0 x4).f1) ((rd_T91 x0 x4).f2) ((rd_T91 x0 x4).f3)).bind fun bt530 => (if x4 < (x3.length : Int) then (laws_toRecordS.l0 k x0 (x3.set (x4 : Int).toNat (⟨bt530.1, bt530.2.1, bt530.2.2.1, bt530.2.2.2⟩ : S45)) (wrap64 (x4 + 1))) else (none))) else (none)) else (some x3)
def laws_toRecordS.f (k : Nat) (l0 : List (S91)) : Option ((List (S45))) := if 0 ≤ (l0.length : Int) then (if ((l0.length : Int) : Int).toNat ≤ 5864062014805 then (laws_toRecordS.l0 k l0 (List.replicate ((l0.length : Int) : Int).toNat z45) 0) else (none)) else (none)
theorem laws_toRecordS.calls (k : Nat) (A0 : Option Addr) (c0 : Nat) (l0 : List (S91)) (r : List (S45)) (w : World) (hr0 : Kd.C k91 w A0 l0.length l0) (hc0 : l0.length ≤ c0) (h : laws_toRecordS.f k l0 = some r) :
 Calls Tryz.prog 23 #[.slice A0 l0.length c0] w fun e w' => ∃ v0_ : Value, e = .returned (v0_) ∧ Kd.R k45 45 w' w.heap.size (fun _ => True) v0_ r ∧ Below w.heap.size w w' := by
 have hu91 := Tryz.underlying91
 have hu45 := Tryz.underlying45
 have HR0 := a0_ hr0
 have HC0 := a0_ hc0
 clear hr0 hc0
 have HB := a0_ (Below.refl w.heap.size w)
 have H := h
 clear h
 unfold laws_toRecordS.f at H
 by_cases c2 : 0 ≤ (l0.length : Int)
 case neg =>
  rw [if_neg c2] at H
  exact absurd H (by simp)
 rw [if_pos c2] at H
 have c2b0 := eq_true c2
 have c2b1 := decide_eq_true c2
 clear c2
 by_cases c3 : ((l0.length : Int) : Int).toNat ≤ 5864062014805
 case neg =>
  rw [if_neg c3] at H
  exact absurd H (by simp)
 rw [if_pos c3] at H
 have c3b0 := eq_true c3
 have c3b1 := decide_eq_true c3
 clear c3
 obtain ⟨y526, hy526⟩ : ∃ y_ : List (S45), y_ = (List.replicate ((l0.length : Int) : Int).toNat z45) := ⟨_, rfl⟩
 rw [← hy526] at H
 have Ny526 := a0_ hy526
 clear hy526
 have H' := a0_ H
 clear H
 go_enter Tryz.func23, Tryz.ntmps23
 go_wp2_with (first | ((with_reducible refine gate_dst (N := 7) rfl ?_); refine Kd.R_make k45 _ 45 rfl (N := 7) rfl 27 _ _ rfl (l0.length : Int) rfl rfl Tryz.underlying27 (.agg #[(.string ⟨#[]⟩), (.int .i64 0), (.int .i64 0), (.string ⟨#[]⟩)]) 48 info45 rfl (by decide) (by omega) z45 (ok := fun _ => True) (okp := fun _ => True) (k45_mkM _ _ _ z45 ) (fun _ hk => hk) trivial (dec_) (Nat.le_trans (Nat.mul_le_mul_right _ (dec_ : (l0.length : Int).toNat ≤ 5864062014805)) (by omega)) (Below.refl _ _) (Nat.le_refl _) ?_; intro v527 w4 ho5 hb hg_ hnew_; clear hg_ hnew_; (first | rw [← Ny526.out] at ho5 | (simp only [Int.reduceToNat] at ho5; rw [← Ny526.out] at ho5)); have HO528 := a0_ (Kd.R_lower ho5 (below_size bq0_)); replace HB := a0_ (below_step bq0_ hb); clear hb ho5))
 go_loopg [4] k (fun kq v4 w' => ∃ (x3_1 : List (S45)) (x4_1 : Int), v4 = .int .i64 x4_1 ∧ Aside0 (laws_toRecordS.l0 kq l0 x3_1 x4_1 = some r) ∧ Aside0 (kq ≤ k) ∧ Aside0 (Kd.R k45 45 w' w.heap.size (fun _ => True) v527 x3_1) ∧ Aside0 (Below w.heap.size w w'))
 case atStart => exact ⟨(y526), (0), rs_, H', ⟨Nat.le_refl _⟩, ⟨kR_ HO528.out⟩, ⟨bq0_⟩⟩
 case round =>
  clear H'
  try clear c2
  try clear c2b0
  try clear c2b1
  try clear c3
  try clear c3b0
  try clear c3b1
  obtain ⟨x3_1, x4_1, rfl, HA, HK1, HO_3, HB⟩ := hrel
  cases gk with
  | zero => exact absurd HA.out (by simp [laws_toRecordS.l0])
  | succ k1 =>
   have H := HA.out
   clear HA
   simp only [laws_toRecordS.l0] at H
   by_cases c6 : x4_1 < (l0.length : Int)
   case neg =>
    rw [if_neg c6] at H
    have c6b0 := decide_eq_false c6
    clear c6
    obtain rfl := Option.some.inj H
    go_wp2
    go_ret
    exact ⟨_, rr_, kR_ HO_3.out, bq0_⟩
   rw [if_pos c6] at H
   have c6b0 := decide_eq_true c6
   clear c6
   by_cases c7 : 0 ≤ x4_1
   case neg =>
    rw [if_neg c7] at H
    exact absurd H (by simp)
   rw [if_pos c7] at H
   have c7b0 := decide_eq_true c7
   clear c7
   obtain ⟨⟨t530, t531, t532, t533⟩, A8, H⟩ := ob_ H
   by_cases c9 : x4_1 < (x3_1.length : Int)
   case neg =>
    rw [if_neg c9] at H
    exact absurd H (by simp)
   rw [if_pos c9] at H
   have c9b0 := decide_eq_true c9
   clear c9
   obtain ⟨y534, hy534⟩ : ∃ y_ : List (S45), y_ = (x3_1.set (x4_1 : Int).toNat (⟨t530, t531, t532, t533⟩ : S45)) := ⟨_, rfl⟩
   rw [← hy534] at H
   have Ny534 := a0_ hy534
   clear hy534
   have H' := a0_ H
   clear H
   have p529 := t0_ (x4_1)
   have q529 := tl_ (x4_1) (l0.length)
   obtain ⟨ad529, e529, -, -, -, -, hx529_0, hx529_1, hx529_2, hx529_3⟩ := rp_ HB (at_T91 HR0.out x4_1 (of_eq_true p529) (of_eq_true q529))
   cases e529
   go_wp2_with (first | ((with_reducible refine gt_ 73 rfl ?_); refine gs_ 20 Tryz.func73 #[.agg #[.string ((rd_T91 l0 x4_1).f0), .int .i64 ((rd_T91 l0 x4_1).f1), .int .i64 ((rd_T91 l0 x4_1).f2), .string ((rd_T91 l0 x4_1).f3)]] ?_; (with_reducible refine (laws_toRecord.calls ((rd_T91 l0 x4_1).f0) ((rd_T91 l0 x4_1).f1) ((rd_T91 l0 x4_1).f2) ((rd_T91 l0 x4_1).f3) t530 t531 t532 t533 _ A8.out).mono ?_); rintro e w11 ⟨rfl, hb⟩; refine ⟨_, rfl, ?_⟩; replace HO_3 := a0_ (Kd.R_below (kR_ HO_3.out) hb); replace HB := a0_ (below_step bq0_ hb); clear hb; have p10 : 0 ≤ (x4_1 : Int) := dec_; have q10 : (x4_1 : Int) < ((x3_1.length : Int) : Int) := dec_; obtain ⟨go10, co10, eo10, gb10, gl10, cl10, HG10⟩ := Kd.R_form HO_3.out (by omega); (first | cases eo10 | (injection eo10 with ea_ en_ ec_; (first | subst ea_ | (injection ea_ with ea_; subst ea_)); subst ec_; clear en_)); have GB10 := a0_ gb10; have GG10 := a0_ HG10; clear gb10 gl10 HG10; obtain ⟨ce10, hcl10, hM10, hcc10, hfr10⟩ := Kd.R_elem HO_3.out z45 (x4_1 : Int) p10 q10; obtain rfl := k45_openM hM10; have hx10_0 : w11.cell? ⟨go10, (x4_1 : Int).toNat * 4, none⟩ = some (.string ((rd_T45 x3_1 x4_1).f0)) := hcc10 0 _ rfl; have hx10_1 : w11.cell? ⟨go10, (x4_1 : Int).toNat * 4 + 1, none⟩ = some (.int .i64 ((rd_T45 x3_1 x4_1).f1)) := hcc10 1 _ rfl; have hx10_2 : w11.cell? ⟨go10, (x4_1 : Int).toNat * 4 + 2, none⟩ = some (.int .i64 ((rd_T45 x3_1 x4_1).f2)) := hcc10 2 _ rfl; have hx10_3 : w11.cell? ⟨go10, (x4_1 : Int).toNat * 4 + 3, none⟩ = some (.string ((rd_T45 x3_1 x4_1).f3)) := hcc10 3 _ rfl; have hf10_0 : w11.frozen? ⟨go10, (x4_1 : Int).toNat * 4, none⟩ = false := hfr10 0; have hf10_1 : w11.frozen? ⟨go10, (x4_1 : Int).toNat * 4 + 1, none⟩ = false := hfr10 1; have hf10_2 : w11.frozen? ⟨go10, (x4_1 : Int).toNat * 4 + 2, none⟩ = false := hfr10 2; have hf10_3 : w11.frozen? ⟨go10, (x4_1 : Int).toNat * 4 + 3, none⟩ = false := hfr10 3; clear hcl10 hcc10 hfr10 hM10; replace p10 := eq_true p10; replace q10 := eq_true q10; have HX12 := a0_ (show Kd.R k45 45 w11 w.heap.size (fun _ => True) (.slice (some ⟨go10, 0, none⟩) x3_1.length co10) x3_1 from (kR_ HO_3.out)); obtain ⟨ce12, hcl12, hM12, hcc12, hfr12⟩ := Kd.R_elem HX12.out z45 (x4_1 : Int) (dec_) (by have h_ : (x4_1 : Int) < ((x3_1.length : Int) : Int) := dec_; first | exact h_ | (have e_ := (Kd.R_reads' HO_3.out).1; omega) | simpa using h_); obtain rfl := k45_openM hM12; have HP12 := Kd.R_seg HX12.out (x4_1 : Int) (dec_) (by have h_ : (x4_1 : Int) < ((x3_1.length : Int) : Int) := dec_; first | exact h_ | (have e_ := (Kd.R_reads' HO_3.out).1; omega) | simpa using h_) (seg := [.string t530, .int .i64 t531, .int .i64 t532, .string t533]) (j := 0) hcl12 hcc12 (show 4 ≤ 4 from by decide) (x' := (⟨t530, t531, t532, t533⟩ : S45)) (k45_mkM _ _ _ (⟨t530, t531, t532, t533⟩ : S45) ) (fun _ hk => hk); have hx12_0 := hcc12 0 _ rfl; (try simp only [show (k45).sz = 4 from rfl, Nat.mul_one, Nat.add_zero] at hx12_0); have hf12_0 := hfr12 0; (try simp only [show (k45).sz = 4 from rfl, Nat.mul_one, Nat.add_zero] at hf12_0); have hx12_1 := hcc12 1 _ rfl; (try simp only [show (k45).sz = 4 from rfl, Nat.mul_one, Nat.add_zero] at hx12_1); have hf12_1 := hfr12 1; (try simp only [show (k45).sz = 4 from rfl, Nat.mul_one, Nat.add_zero] at hf12_1); have hx12_2 := hcc12 2 _ rfl; (try simp only [show (k45).sz = 4 from rfl, Nat.mul_one, Nat.add_zero] at hx12_2); have hf12_2 := hfr12 2; (try simp only [show (k45).sz = 4 from rfl, Nat.mul_one, Nat.add_zero] at hf12_2); have hx12_3 := hcc12 3 _ rfl; (try simp only [show (k45).sz = 4 from rfl, Nat.mul_one, Nat.add_zero] at hx12_3); have hf12_3 := hfr12 3; (try simp only [show (k45).sz = 4 from rfl, Nat.mul_one, Nat.add_zero] at hf12_3); clear hcl12 hcc12 hfr12 hM12) | ((with_reducible refine gate_store (t := 45) (p := 21) rfl ?_); refine store_event (t := 45) (p := 21) (v := ?vo_w13) (w1 := ((((w11.setCell ⟨go10, (x4_1 : Int).toNat * 4, none⟩ (.string t530)).setCell ⟨go10, (x4_1 : Int).toNat * 4 + 1, none⟩ (.int .i64 t531)).setCell ⟨go10, (x4_1 : Int).toNat * 4 + 2, none⟩ (.int .i64 t532)).setCell ⟨go10, (x4_1 : Int).toNat * 4 + 3, none⟩ (.string t533))) ?hg ?ho ?hn ?hr ?_; (case ho => rfl); (case hg => rfl); (case hn => rfl); (case hr => first | (go_simp; done) | (go_simp; rfl)); intro w13 hw; have hg : w11.grownBy w13 (some go10) := (by rw [hw]; exact HP12.2); have hp_ : Kd.R k45 45 w13 w.heap.size (fun _ => True) (.slice (some ⟨go10, 0, none⟩) x3_1.length co10) y534 := (by rw [hw, Ny534.out]; exact HP12.1); clear HP12; replace HO_3 := a0_ (hp_); replace HB := a0_ ((by rw [hw]; exact below_set (below_set (below_set (below_set (HB.out) GB10.out) GB10.out) GB10.out) GB10.out : Below w.heap.size w w13)); clear hg hw hp_))
   go_roundg k1
   case measure => have := HK1.out; omega
   case rel => exact ⟨(y534), (wrap64 (x4_1 + 1)), rs_, H', jl_ HK1, ⟨kR_ HO_3.out⟩, ⟨bq0_⟩⟩
def laws_eqRecordS.l0 : Nat → List (S45) → List (S45) → Int → Option (Bool)
 | 0, _, _, _ => none
 | k + 1, x0, x1, x5 => if x5 < (x0.length : Int) then (if 0 ≤ x5 then (if x5 < (x1.length : Int) then ((laws_eqRecord.f ((rd_T45 x0 x5).f0) ((rd_T45 x0 x5).f1) ((rd_T45 x0 x5).f2) ((rd_T45 x0 x5).f3) ((rd_T45 x1 x5).f0) ((rd_T45 x1 x5).f1) ((rd_T45 x1 x5).f2) ((rd_T45 x1 x5).f3)).bind fun t442 => (if t442 = true then (laws_eqRecordS.l0 k x0 x1 (wrap64 (x5 + 1))) else (some false))) else (none)) else (none)) else (some true)
def laws_eqRecordS.f (k : Nat) (l0 : List (S45)) (l1 : List (S45)) : Option (Bool) := if (l0.length : Int) = (l1.length : Int) then (laws_eqRecordS.l0 k l0 l1 0) else (some false)
def laws_eqRecordS.T6 : Bool × List (List Nat × List Nat) := (true, [([], []), ([], []), ([0, 1], [0, 1]), ([2], [2]), ([], []), ([], []), ([4, 5], [4, 5]), ([6], [6]), ([3, 7], [3, 7]), ([8], [8])])
def laws_eqRecordS.B6 : List Nat := [0, 0, 3, 7, 0, 0, 48, 112, 255, 511]
theorem laws_eqRecordS.tab6 : rtab .any (opsOf Tryz.f16 6) = laws_eqRecordS.T6 := by kernel_rfl
theorem laws_eqRecordS.bits6 : waitsOk laws_eqRecordS.T6.2 laws_eqRecordS.B6 = true := by kernel_rfl
theorem laws_eqRecordS.calls (k : Nat) (A0 : Option Addr) (c0 : Nat) (l0 : List (S45)) (A1 : Option Addr) (c1 : Nat) (l1 : List (S45)) (r : Bool) (w : World) (hr0 : Kd.C k45 w A0 l0.length l0) (hc0 : l0.length ≤ c0) (hr1 : Kd.C k45 w A1 l1.length l1) (hc1 : l1.length ≤ c1) (h : laws_eqRecordS.f k l0 l1 = some r) :
 Calls Tryz.prog 16 #[.slice A0 l0.length c0, .slice A1 l1.length c1] w fun e w' => e = .returned (.bool r) ∧ Below w.heap.size w w' := by
 have hu45 := Tryz.underlying45
 have HR0 := a0_ hr0
 have HC0 := a0_ hc0
 clear hr0 hc0
 have HR1 := a0_ hr1
 have HC1 := a0_ hc1
 clear hr1 hc1
 have HB := a0_ (Below.refl w.heap.size w)
 have H := h
 clear h
 unfold laws_eqRecordS.f at H
 by_cases c3 : (l0.length : Int) = (l1.length : Int)
 case neg =>
  rw [if_neg c3] at H
  have c3b0 := beq_eq_false_iff_ne.mpr c3
  have c3b1 := bne_iff_ne.mpr c3
  have c3b2 : (l0.length == l1.length) = false := by first | simpa using c3 | (simp at c3 ⊢; omega)
  obtain rfl := Option.some.inj H
  go_enter Tryz.func16, Tryz.ntmps16
  go_wp2
  go_ret
  exact ⟨rr_, bq0_⟩
 rw [if_pos c3] at H
 have c3b0 := beq_iff_eq.mpr c3
 have c3b1 := bne_eq_false_iff_eq.mpr c3
 have c3b2 : (l0.length == l1.length) = true := by first | simpa using c3 | (simp at c3 ⊢; omega)
 clear c3
 have H' := a0_ H
 clear H
 go_enter Tryz.func16, Tryz.ntmps16
 go_wp2
 go_loopg [5] k (fun kq v5 w' => ∃ (x5_1 : Int), v5 = .int .i64 x5_1 ∧ Aside0 (laws_eqRecordS.l0 kq l0 l1 x5_1 = some r) ∧ Aside0 (kq ≤ k) ∧ Aside0 (Below w.heap.size w w'))
 case atStart => exact ⟨(0), rs_, H', ⟨Nat.le_refl _⟩, ⟨bq0_⟩⟩
 case round =>
  clear H'
  try clear c1
  try clear c3
  try clear c3b0
  try clear c3b1
  try clear c3b2
  obtain ⟨x5_1, rfl, HA, HK1, HB⟩ := hrel
  cases gk with
  | zero => exact absurd HA.out (by simp [laws_eqRecordS.l0])
  | succ k1 =>
   have H := HA.out
   clear HA
   simp only [laws_eqRecordS.l0] at H
   by_cases c4 : x5_1 < (l0.length : Int)
   case neg =>
    rw [if_neg c4] at H
    have c4b0 := decide_eq_false c4
    clear c4
    obtain rfl := Option.some.inj H
    go_wp2
    go_ret
    exact ⟨rr_, bq0_⟩
   rw [if_pos c4] at H
   have c4b0 := decide_eq_true c4
   clear c4
   by_cases c5 : 0 ≤ x5_1
   case neg =>
    rw [if_neg c5] at H
    exact absurd H (by simp)
   rw [if_pos c5] at H
   have c5b0 := decide_eq_true c5
   clear c5
   by_cases c6 : x5_1 < (l1.length : Int)
   case neg =>
    rw [if_neg c6] at H
    exact absurd H (by simp)
   rw [if_pos c6] at H
   have c6b0 := decide_eq_true c6
   clear c6
   obtain ⟨t442, A7, H⟩ := ob_ H
   by_cases c8 : t442 = true
   case neg =>
    replace c8 := Bool.eq_false_iff.mpr c8
    subst c8
    rw [if_neg ff_] at H
    obtain rfl := Option.some.inj H
    try go_wp2
    replace HB := a0_ (below_drew1 HB.out)
    have p440 := t0_ (x5_1)
    have q440 := tl_ (x5_1) (l0.length)
    obtain ⟨ad440, e440, hw440_0, hw440_1, hw440_2, hw440_3, hx440_0, hx440_1, hx440_2, hx440_3⟩ := rp_ HB (at_T45 HR0.out x5_1 (of_eq_true p440) (of_eq_true q440))
    cases e440
    have p441 := t0_ (x5_1)
    have q441 := tl_ (x5_1) (l1.length)
    obtain ⟨ad441, e441, hw441_0, hw441_1, hw441_2, hw441_3, hx441_0, hx441_1, hx441_2, hx441_3⟩ := rp_ HB (at_T45 HR1.out x5_1 (of_eq_true p441) (of_eq_true q441))
    cases e441
    refine stH_ 10 [] (cu_ HB.out hw440_0 hw440_1 hw440_2 hw440_3 (eu_ HB.out hw441_0 hw441_1 hw441_2 hw441_3)) (fun hHeld => ?_); refine with_tabW laws_eqRecordS.tab6 laws_eqRecordS.bits6 (fun HT_ HW_ => ?_)
    generalize wr.drew = w11 at HB hx440_0 hx440_1 hx440_2 hx440_3 hx441_0 hx441_1 hx441_2 hx441_3 hHeld ⊢
    refine p_ 0 17 ?_
    refine p_ 1 18 ?_
    refine p_ 2 19 ?_
    refine p_ 4 21 ?_
    refine p_ 5 22 ?_
    refine p_ 6 23 ?_
    refine t_ 3 20 ?_
    refine t_ 7 24 ?_
    refine oneS_ 8 (some 25) (fun K hK => ?_)
    refine goes_ Tryz.func67 (by kernel_rfl) rfl #[.agg #[.string ((rd_T45 l0 x5_1).f0), .int .i64 ((rd_T45 l0 x5_1).f1), .int .i64 ((rd_T45 l0 x5_1).f2), .string ((rd_T45 l0 x5_1).f3)], .agg #[.string ((rd_T45 l1 x5_1).f0), .int .i64 ((rd_T45 l1 x5_1).f1), .int .i64 ((rd_T45 l1 x5_1).f2), .string ((rd_T45 l1 x5_1).f3)]] (by rfl) rfl rfl argsS_ ?_
    with_reducible refine (laws_eqRecord.calls ((rd_T45 l0 x5_1).f0) ((rd_T45 l0 x5_1).f1) ((rd_T45 l0 x5_1).f2) ((rd_T45 l0 x5_1).f3) ((rd_T45 l1 x5_1).f0) ((rd_T45 l1 x5_1).f1) ((rd_T45 l1 x5_1).f2) ((rd_T45 l1 x5_1).f3) false _ A7.out).mono ?_
    rintro e w12 ⟨rfl, hb⟩
    refine ⟨_, rfl, ?_⟩
    replace HB := a0_ (below_step bq0_ hb)
    (try clear hb)
    (try clear hb2)
    (try clear hk)
    (try clear hi)
    refine hK.out _ _ (cu_ HB.out hw440_0 hw440_1 hw440_2 hw440_3 (eu_ HB.out hw441_0 hw441_1 hw441_2 hw441_3)).out (fun hHeld => ?_)
    clear hK K
    refine normS_ ?_
    refine p_ 9 26 ?_
    refine done_ (done_of HT_.out (by kernel_rfl)) ?_
    try go_wp2
    go_ret
    exact ⟨rr_, bq0_⟩
   subst c8
   rw [if_pos rfl] at H
   have H' := a0_ H
   clear H
   try go_wp2
   replace HB := a0_ (below_drew1 HB.out)
   have p440 := t0_ (x5_1)
   have q440 := tl_ (x5_1) (l0.length)
   obtain ⟨ad440, e440, hw440_0, hw440_1, hw440_2, hw440_3, hx440_0, hx440_1, hx440_2, hx440_3⟩ := rp_ HB (at_T45 HR0.out x5_1 (of_eq_true p440) (of_eq_true q440))
   cases e440
   have p441 := t0_ (x5_1)
   have q441 := tl_ (x5_1) (l1.length)
   obtain ⟨ad441, e441, hw441_0, hw441_1, hw441_2, hw441_3, hx441_0, hx441_1, hx441_2, hx441_3⟩ := rp_ HB (at_T45 HR1.out x5_1 (of_eq_true p441) (of_eq_true q441))
   cases e441
   refine stH_ 10 [] (cu_ HB.out hw440_0 hw440_1 hw440_2 hw440_3 (eu_ HB.out hw441_0 hw441_1 hw441_2 hw441_3)) (fun hHeld => ?_); refine with_tabW laws_eqRecordS.tab6 laws_eqRecordS.bits6 (fun HT_ HW_ => ?_)
   generalize wr.drew = w9 at HB hx440_0 hx440_1 hx440_2 hx440_3 hx441_0 hx441_1 hx441_2 hx441_3 hHeld ⊢
   refine p_ 0 17 ?_
   refine p_ 1 18 ?_
   refine p_ 2 19 ?_
   refine p_ 4 21 ?_
   refine p_ 5 22 ?_
   refine p_ 6 23 ?_
   refine t_ 3 20 ?_
   refine t_ 7 24 ?_
   refine oneS_ 8 (some 25) (fun K hK => ?_)
   refine goes_ Tryz.func67 (by kernel_rfl) rfl #[.agg #[.string ((rd_T45 l0 x5_1).f0), .int .i64 ((rd_T45 l0 x5_1).f1), .int .i64 ((rd_T45 l0 x5_1).f2), .string ((rd_T45 l0 x5_1).f3)], .agg #[.string ((rd_T45 l1 x5_1).f0), .int .i64 ((rd_T45 l1 x5_1).f1), .int .i64 ((rd_T45 l1 x5_1).f2), .string ((rd_T45 l1 x5_1).f3)]] (by rfl) rfl rfl argsS_ ?_
   with_reducible refine (laws_eqRecord.calls ((rd_T45 l0 x5_1).f0) ((rd_T45 l0 x5_1).f1) ((rd_T45 l0 x5_1).f2) ((rd_T45 l0 x5_1).f3) ((rd_T45 l1 x5_1).f0) ((rd_T45 l1 x5_1).f1) ((rd_T45 l1 x5_1).f2) ((rd_T45 l1 x5_1).f3) true _ A7.out).mono ?_
   rintro e w10 ⟨rfl, hb⟩
   refine ⟨_, rfl, ?_⟩
   replace HB := a0_ (below_step bq0_ hb)
   (try clear hb)
   (try clear hb2)
   (try clear hk)
   (try clear hi)
   refine hK.out _ _ (cu_ HB.out hw440_0 hw440_1 hw440_2 hw440_3 (eu_ HB.out hw441_0 hw441_1 hw441_2 hw441_3)).out (fun hHeld => ?_)
   clear hK K
   refine normS_ ?_
   refine p_ 9 26 ?_
   refine done_ (done_of HT_.out (by kernel_rfl)) ?_
   try go_wp2
   go_roundg k1
   case measure => have := HK1.out; omega
   case rel => exact ⟨(wrap64 (x5_1 + 1)), rs_, H', jl_ HK1, ⟨bq0_⟩⟩
def laws_markRecordS.l0 : Nat → List (S45) → Int → Int → Option (Int × (List (S45)))
 | 0, _, _, _ => none
 | k + 1, x0, x1, x5 => if x5 < (x0.length : Int) then ((laws_markText.f k x1).bind fun t457 => (if 0 ≤ x5 then ((some (x0.set (x5 : Int).toNat (⟨t457, (rd_T45 x0 x5).f1, (rd_T45 x0 x5).f2, (rd_T45 x0 x5).f3⟩ : S45) : List (S45))).bind fun y458 => ((some (y458.set (x5 : Int).toNat (⟨(rd_T45 y458 x5).f0, wrap64 (x1 + 1), (rd_T45 y458 x5).f2, (rd_T45 y458 x5).f3⟩ : S45) : List (S45))).bind fun y459 => ((some (y459.set (x5 : Int).toNat (⟨(rd_T45 y459 x5).f0, (rd_T45 y459 x5).f1, wrap64 ((wrap64 (x1 + 1)) + 1), (rd_T45 y459 x5).f3⟩ : S45) : List (S45))).bind fun y460 => ((laws_markText.f k (wrap64 ((wrap64 ((wrap64 (x1 + 1)) + 1)) + 1))).bind fun t461 => (laws_markRecordS.l0 k (y460.set (x5 : Int).toNat (⟨(rd_T45 y460 x5).f0, (rd_T45 y460 x5).f1, (rd_T45 y460 x5).f2, t461⟩ : S45)) (wrap64 ((wrap64 ((wrap64 ((wrap64 (x1 + 1)) + 1)) + 1)) + 1)) (wrap64 (x5 + 1))))))) else (none))) else (some (x1, x0))
def laws_markRecordS.f (k : Nat) (l0 : List (S45)) (a1 : Int) : Option (Int × (List (S45))) := laws_markRecordS.l0 k l0 a1 0
theorem laws_markRecordS.calls (k : Nat) (P0_ : Nat → Prop) (u9000_ : Value) (l0 : List (S45)) (a1 : Int) (r1 : Int) (r2 : List (S45)) (w0 w : World) (hB : Below w0.heap.size w0 w) (ho0 : Kd.R k45 45 w w0.heap.size P0_ u9000_ l0) (h : laws_markRecordS.f k l0 a1 = some (r1, r2)) :
 Calls Tryz.prog 19 #[u9000_, .int .i64 a1] w fun e w' => e = .returned (.int .i64 r1) ∧ Kd.R k45 45 w' w0.heap.size (fun k_ => (P0_ k_ ∨ w.heap.size ≤ k_)) u9000_ r2 ∧ Below w0.heap.size w0 w' ∧ Kept w w' (fun k_ => P0_ k_) := by
 have HO0 := a0_ (show Kd.R k45 45 w w0.heap.size (fun k_ => (P0_ k_ ∨ w.heap.size ≤ k_)) u9000_ l0 from Kd.R_mono ho0 (fun k_ hk => (.inl hk)))
 have HK := a0_ (Kept.refl w (fun k_ => P0_ k_))
 have HW0 := a0_ hB.size
 have HB := a0_ hB
 clear hB
 have H : (laws_markRecordS.l0 k l0 a1 0) = some (r1, r2) := h
 clear h
 have H' := a0_ H
 clear H
 go_enter Tryz.func19, Tryz.ntmps19
 go_wp2
 go_loopg [1, 5] k (fun kq v1 v5 w' => ∃ (x0_1 : List (S45)) (x1_1 : Int) (x5_1 : Int), v1 = .int .i64 x1_1 ∧ v5 = .int .i64 x5_1 ∧ Aside0 (laws_markRecordS.l0 kq x0_1 x1_1 x5_1 = some (r1, r2)) ∧ Aside0 (kq ≤ k) ∧ Aside0 (Kd.R k45 45 w' w0.heap.size (fun k_ => (P0_ k_ ∨ w.heap.size ≤ k_)) u9000_ x0_1) ∧ Aside0 (Kept w w' (fun k_ => P0_ k_)) ∧ Aside0 (Below w0.heap.size w0 w'))
 case atStart => exact ⟨(l0), (a1), (0), rs_, rs_, H', ⟨Nat.le_refl _⟩, ⟨kR_ HO0.out⟩, ⟨kp_⟩, ⟨bq0_⟩⟩
 case round =>
  clear H'
  obtain ⟨x0_1, x1_1, x5_1, rfl, rfl, HA, HK1, HO_0, HK, HB⟩ := hrel
  cases gk with
  | zero => exact absurd HA.out (by simp [laws_markRecordS.l0])
  | succ k1 =>
   have H := HA.out
   clear HA
   simp only [laws_markRecordS.l0] at H
   by_cases c3 : x5_1 < (x0_1.length : Int)
   case neg =>
    rw [if_neg c3] at H
    have c3b0 := decide_eq_false c3
    clear c3
    simp only [Option.some.injEq, Prod.mk.injEq] at H
    obtain ⟨rfl, rfl⟩ := H
    obtain ⟨Ao22, co22, eo22⟩ := Kd.R_slice HO_0.out
    subst eo22
    go_wp2
    go_ret
    exact ⟨rr_, kR_ HO_0.out, bq0_, by repeat (first | (with_reducible first | exact HK.out | apply Kept.alloc | apply Kept.drewN | apply Kept.drew) | exact HK.out)⟩
   rw [if_pos c3] at H
   have c3b0 := decide_eq_true c3
   clear c3
   obtain ⟨t457, A4, H⟩ := ob_ H
   by_cases c5 : 0 ≤ x5_1
   case neg =>
    rw [if_neg c5] at H
    exact absurd H (by simp)
   rw [if_pos c5] at H
   have c5b0 := decide_eq_true c5
   clear c5
   obtain ⟨y458, hy458⟩ : ∃ y_ : List (S45), y_ = (x0_1.set (x5_1 : Int).toNat (⟨t457, (rd_T45 x0_1 x5_1).f1, (rd_T45 x0_1 x5_1).f2, (rd_T45 x0_1 x5_1).f3⟩ : S45)) := ⟨_, rfl⟩
   replace H := by_ hy458 H
   have Ny458 := a0_ hy458
   clear hy458
   obtain ⟨y459, hy459⟩ : ∃ y_ : List (S45), y_ = (y458.set (x5_1 : Int).toNat (⟨(rd_T45 y458 x5_1).f0, wrap64 (x1_1 + 1), (rd_T45 y458 x5_1).f2, (rd_T45 y458 x5_1).f3⟩ : S45)) := ⟨_, rfl⟩
   replace H := by_ hy459 H
   have Ny459 := a0_ hy459
   clear hy459
   obtain ⟨y460, hy460⟩ : ∃ y_ : List (S45), y_ = (y459.set (x5_1 : Int).toNat (⟨(rd_T45 y459 x5_1).f0, (rd_T45 y459 x5_1).f1, wrap64 ((wrap64 (x1_1 + 1)) + 1), (rd_T45 y459 x5_1).f3⟩ : S45)) := ⟨_, rfl⟩
   replace H := by_ hy460 H
   have Ny460 := a0_ hy460
   clear hy460
   obtain ⟨t461, A9, H⟩ := ob_ H
   obtain ⟨y462, hy462⟩ : ∃ y_ : List (S45), y_ = (y460.set (x5_1 : Int).toNat (⟨(rd_T45 y460 x5_1).f0, (rd_T45 y460 x5_1).f1, (rd_T45 y460 x5_1).f2, t461⟩ : S45)) := ⟨_, rfl⟩
   rw [← hy462] at H
   have Ny462 := a0_ hy462
   clear hy462
   have H' := a0_ H
   clear H
   obtain ⟨Ao11, co11, eo11⟩ := Kd.R_slice HO_0.out
   subst eo11
   go_wp2_with (first | ((with_reducible refine gt_ 69 rfl ?_); refine gs_ 15 Tryz.func69 #[.int .i64 x1_1] ?_; (with_reducible refine (laws_markText.calls k1 x1_1 t457 _ A4.out).mono ?_); rintro e w12 ⟨rfl, hb⟩; refine ⟨_, rfl, ?_⟩; replace HO_0 := a0_ (Kd.R_below (kR_ HO_0.out) hb); replace HK := a0_ (Kept.below (S := (fun k_ => P0_ k_)) kp_ hb); replace HB := a0_ (below_step bq0_ hb); clear hb; have p6 : 0 ≤ (x5_1 : Int) := dec_; have q6 : (x5_1 : Int) < ((x0_1.length : Int) : Int) := dec_; obtain ⟨go6, co6, eo6, gb6, gl6, cl6, HG6⟩ := Kd.R_form HO_0.out (by omega); (first | cases eo6 | (injection eo6 with ea_ en_ ec_; (first | subst ea_ | (injection ea_ with ea_; subst ea_)); subst ec_; clear en_)); have GB6 := a0_ gb6; have GG6 := a0_ HG6; clear gb6 gl6 HG6; have HMgo6 := a0_ (show (P0_ go6 ∨ w.heap.size ≤ go6) from (HO_0.out.1 _ rfl)); obtain ⟨ce6, hcl6, hM6, hcc6, hfr6⟩ := Kd.R_elem HO_0.out z45 (x5_1 : Int) p6 q6; obtain rfl := k45_openM hM6; have hx6_0 : w12.cell? ⟨go6, (x5_1 : Int).toNat * 4, none⟩ = some (.string ((rd_T45 x0_1 x5_1).f0)) := hcc6 0 _ rfl; have hx6_1 : w12.cell? ⟨go6, (x5_1 : Int).toNat * 4 + 1, none⟩ = some (.int .i64 ((rd_T45 x0_1 x5_1).f1)) := hcc6 1 _ rfl; have hx6_2 : w12.cell? ⟨go6, (x5_1 : Int).toNat * 4 + 2, none⟩ = some (.int .i64 ((rd_T45 x0_1 x5_1).f2)) := hcc6 2 _ rfl; have hx6_3 : w12.cell? ⟨go6, (x5_1 : Int).toNat * 4 + 3, none⟩ = some (.string ((rd_T45 x0_1 x5_1).f3)) := hcc6 3 _ rfl; have hf6_0 : w12.frozen? ⟨go6, (x5_1 : Int).toNat * 4, none⟩ = false := hfr6 0; have hf6_1 : w12.frozen? ⟨go6, (x5_1 : Int).toNat * 4 + 1, none⟩ = false := hfr6 1; have hf6_2 : w12.frozen? ⟨go6, (x5_1 : Int).toNat * 4 + 2, none⟩ = false := hfr6 2; have hf6_3 : w12.frozen? ⟨go6, (x5_1 : Int).toNat * 4 + 3, none⟩ = false := hfr6 3; clear hcl6 hcc6 hfr6 hM6; replace p6 := eq_true p6; replace q6 := eq_true q6; have HX13 := a0_ (show Kd.R k45 45 w12 w0.heap.size (fun k_ => (P0_ k_ ∨ w.heap.size ≤ k_)) (.slice (some ⟨go6, 0, none⟩) x0_1.length co11) x0_1 from (kR_ HO_0.out)); obtain ⟨ce13, hcl13, hM13, hcc13, hfr13⟩ := Kd.R_elem HX13.out z45 (x5_1 : Int) (dec_) (by have h_ : (x5_1 : Int) < ((x0_1.length : Int) : Int) := dec_; first | exact h_ | (have e_ := (Kd.R_reads' HO_0.out).1; omega) | simpa using h_); obtain rfl := k45_openM hM13; have HP13 := Kd.R_seg HX13.out (x5_1 : Int) (dec_) (by have h_ : (x5_1 : Int) < ((x0_1.length : Int) : Int) := dec_; first | exact h_ | (have e_ := (Kd.R_reads' HO_0.out).1; omega) | simpa using h_) (seg := [.string t457]) (j := 0) hcl13 hcc13 (show 1 ≤ 4 from by decide) (x' := (⟨t457, (rd_T45 x0_1 x5_1).f1, (rd_T45 x0_1 x5_1).f2, (rd_T45 x0_1 x5_1).f3⟩ : S45)) (k45_mkM _ _ _ (⟨t457, (rd_T45 x0_1 x5_1).f1, (rd_T45 x0_1 x5_1).f2, (rd_T45 x0_1 x5_1).f3⟩ : S45) ) (fun _ hk => hk); have hx13_0 := hcc13 0 _ rfl; (try simp only [show (k45).sz = 4 from rfl, Nat.mul_one, Nat.add_zero] at hx13_0); have hf13_0 := hfr13 0; (try simp only [show (k45).sz = 4 from rfl, Nat.mul_one, Nat.add_zero] at hf13_0); clear hcl13 hcc13 hfr13 hM13) | ((with_reducible refine gate_store (t := 9) (p := 17) rfl ?_); refine store_event (t := 9) (p := 17) (v := ?vo_w14) (w1 := (w12.setCell ⟨go6, (x5_1 : Int).toNat * 4, none⟩ (.string t457))) ?hg ?ho ?hn ?hr ?_; (case ho => rfl); (case hg => rfl); (case hn => rfl); (case hr => first | (go_simp; done) | (go_simp; rfl)); intro w14 hw; have hg : w12.grownBy w14 (some go6) := (by rw [hw]; exact HP13.2); have hp_ : Kd.R k45 45 w14 w0.heap.size (fun k_ => (P0_ k_ ∨ w.heap.size ≤ k_)) (.slice (some ⟨go6, 0, none⟩) x0_1.length co11) y458 := (by rw [hw, Ny458.out]; exact HP13.1); clear HP13; replace HB := a0_ ((by rw [hw]; exact below_set (HB.out) GB6.out : Below w0.heap.size w0 w14)); replace HK := a0_ (Kept.of_grown (S := (fun k_ => P0_ k_)) hg kp_ (fun k_ e_ => (HO_0.out.1 k_ e_))); replace HO_0 := a0_ (hp_); clear hg hw hp_; have p7 : 0 ≤ (x5_1 : Int) := dec_; have q7 : (x5_1 : Int) < ((x0_1.length : Int) : Int) := dec_; obtain ⟨ce7, hcl7, hM7, hcc7, hfr7⟩ := Kd.R_elem HO_0.out z45 (x5_1 : Int) p7 q7; obtain rfl := k45_openM hM7; have hx7_0 : w14.cell? ⟨go6, (x5_1 : Int).toNat * 4, none⟩ = some (.string ((rd_T45 y458 x5_1).f0)) := hcc7 0 _ rfl; have hx7_1 : w14.cell? ⟨go6, (x5_1 : Int).toNat * 4 + 1, none⟩ = some (.int .i64 ((rd_T45 y458 x5_1).f1)) := hcc7 1 _ rfl; have hx7_2 : w14.cell? ⟨go6, (x5_1 : Int).toNat * 4 + 2, none⟩ = some (.int .i64 ((rd_T45 y458 x5_1).f2)) := hcc7 2 _ rfl; have hx7_3 : w14.cell? ⟨go6, (x5_1 : Int).toNat * 4 + 3, none⟩ = some (.string ((rd_T45 y458 x5_1).f3)) := hcc7 3 _ rfl; have hf7_0 : w14.frozen? ⟨go6, (x5_1 : Int).toNat * 4, none⟩ = false := hfr7 0; have hf7_1 : w14.frozen? ⟨go6, (x5_1 : Int).toNat * 4 + 1, none⟩ = false := hfr7 1; have hf7_2 : w14.frozen? ⟨go6, (x5_1 : Int).toNat * 4 + 2, none⟩ = false := hfr7 2; have hf7_3 : w14.frozen? ⟨go6, (x5_1 : Int).toNat * 4 + 3, none⟩ = false := hfr7 3; clear hcl7 hcc7 hfr7 hM7; replace p7 := eq_true p7; replace q7 := eq_true q7; have HX15 := a0_ (show Kd.R k45 45 w14 w0.heap.size (fun k_ => (P0_ k_ ∨ w.heap.size ≤ k_)) (.slice (some ⟨go6, 0, none⟩) x0_1.length co11) y458 from (kR_ HO_0.out)); obtain ⟨ce15, hcl15, hM15, hcc15, hfr15⟩ := Kd.R_elem HX15.out z45 (x5_1 : Int) (dec_) (by have h_ : (x5_1 : Int) < ((x0_1.length : Int) : Int) := dec_; first | exact h_ | (have e_ := (Kd.R_reads' HO_0.out).1; omega) | simpa using h_); obtain rfl := k45_openM hM15; have HP15 := Kd.R_seg HX15.out (x5_1 : Int) (dec_) (by have h_ : (x5_1 : Int) < ((x0_1.length : Int) : Int) := dec_; first | exact h_ | (have e_ := (Kd.R_reads' HO_0.out).1; omega) | simpa using h_) (seg := [.int .i64 (wrap64 (x1_1 + 1))]) (j := 1) hcl15 hcc15 (show 2 ≤ 4 from by decide) (x' := (⟨(rd_T45 y458 x5_1).f0, wrap64 (x1_1 + 1), (rd_T45 y458 x5_1).f2, (rd_T45 y458 x5_1).f3⟩ : S45)) (k45_mkM _ _ _ (⟨(rd_T45 y458 x5_1).f0, wrap64 (x1_1 + 1), (rd_T45 y458 x5_1).f2, (rd_T45 y458 x5_1).f3⟩ : S45) ) (fun _ hk => hk); have hx15_1 := hcc15 1 _ rfl; (try simp only [show (k45).sz = 4 from rfl, Nat.mul_one, Nat.add_zero] at hx15_1); have hf15_1 := hfr15 1; (try simp only [show (k45).sz = 4 from rfl, Nat.mul_one, Nat.add_zero] at hf15_1); clear hcl15 hcc15 hfr15 hM15) | ((with_reducible refine gate_store (t := 3) (p := 24) rfl ?_); refine store_event (t := 3) (p := 24) (v := ?vo_w16) (w1 := (w14.setCell ⟨go6, (x5_1 : Int).toNat * 4 + 1, none⟩ (.int .i64 (wrap64 (x1_1 + 1))))) ?hg ?ho ?hn ?hr ?_; (case ho => rfl); (case hg => rfl); (case hn => rfl); (case hr => first | (go_simp; done) | (go_simp; rfl)); intro w16 hw; have hg : w14.grownBy w16 (some go6) := (by rw [hw]; exact HP15.2); have hp_ : Kd.R k45 45 w16 w0.heap.size (fun k_ => (P0_ k_ ∨ w.heap.size ≤ k_)) (.slice (some ⟨go6, 0, none⟩) x0_1.length co11) y459 := (by rw [hw, Ny459.out]; exact HP15.1); clear HP15; replace HB := a0_ ((by rw [hw]; exact below_set (HB.out) GB6.out : Below w0.heap.size w0 w16)); replace HK := a0_ (Kept.of_grown (S := (fun k_ => P0_ k_)) hg kp_ (fun k_ e_ => (HO_0.out.1 k_ e_))); replace HO_0 := a0_ (hp_); clear hg hw hp_; have p8 : 0 ≤ (x5_1 : Int) := dec_; have q8 : (x5_1 : Int) < ((x0_1.length : Int) : Int) := dec_; obtain ⟨ce8, hcl8, hM8, hcc8, hfr8⟩ := Kd.R_elem HO_0.out z45 (x5_1 : Int) p8 q8; obtain rfl := k45_openM hM8; have hx8_0 : w16.cell? ⟨go6, (x5_1 : Int).toNat * 4, none⟩ = some (.string ((rd_T45 y459 x5_1).f0)) := hcc8 0 _ rfl; have hx8_1 : w16.cell? ⟨go6, (x5_1 : Int).toNat * 4 + 1, none⟩ = some (.int .i64 ((rd_T45 y459 x5_1).f1)) := hcc8 1 _ rfl; have hx8_2 : w16.cell? ⟨go6, (x5_1 : Int).toNat * 4 + 2, none⟩ = some (.int .i64 ((rd_T45 y459 x5_1).f2)) := hcc8 2 _ rfl; have hx8_3 : w16.cell? ⟨go6, (x5_1 : Int).toNat * 4 + 3, none⟩ = some (.string ((rd_T45 y459 x5_1).f3)) := hcc8 3 _ rfl; have hf8_0 : w16.frozen? ⟨go6, (x5_1 : Int).toNat * 4, none⟩ = false := hfr8 0; have hf8_1 : w16.frozen? ⟨go6, (x5_1 : Int).toNat * 4 + 1, none⟩ = false := hfr8 1; have hf8_2 : w16.frozen? ⟨go6, (x5_1 : Int).toNat * 4 + 2, none⟩ = false := hfr8 2; have hf8_3 : w16.frozen? ⟨go6, (x5_1 : Int).toNat * 4 + 3, none⟩ = false := hfr8 3; clear hcl8 hcc8 hfr8 hM8; replace p8 := eq_true p8; replace q8 := eq_true q8; have HX17 := a0_ (show Kd.R k45 45 w16 w0.heap.size (fun k_ => (P0_ k_ ∨ w.heap.size ≤ k_)) (.slice (some ⟨go6, 0, none⟩) x0_1.length co11) y459 from (kR_ HO_0.out)); obtain ⟨ce17, hcl17, hM17, hcc17, hfr17⟩ := Kd.R_elem HX17.out z45 (x5_1 : Int) (dec_) (by have h_ : (x5_1 : Int) < ((x0_1.length : Int) : Int) := dec_; first | exact h_ | (have e_ := (Kd.R_reads' HO_0.out).1; omega) | simpa using h_); obtain rfl := k45_openM hM17; have HP17 := Kd.R_seg HX17.out (x5_1 : Int) (dec_) (by have h_ : (x5_1 : Int) < ((x0_1.length : Int) : Int) := dec_; first | exact h_ | (have e_ := (Kd.R_reads' HO_0.out).1; omega) | simpa using h_) (seg := [.int .i64 (wrap64 ((wrap64 (x1_1 + 1)) + 1))]) (j := 2) hcl17 hcc17 (show 3 ≤ 4 from by decide) (x' := (⟨(rd_T45 y459 x5_1).f0, (rd_T45 y459 x5_1).f1, wrap64 ((wrap64 (x1_1 + 1)) + 1), (rd_T45 y459 x5_1).f3⟩ : S45)) (k45_mkM _ _ _ (⟨(rd_T45 y459 x5_1).f0, (rd_T45 y459 x5_1).f1, wrap64 ((wrap64 (x1_1 + 1)) + 1), (rd_T45 y459 x5_1).f3⟩ : S45) ) (fun _ hk => hk); have hx17_2 := hcc17 2 _ rfl; (try simp only [show (k45).sz = 4 from rfl, Nat.mul_one, Nat.add_zero] at hx17_2); have hf17_2 := hfr17 2; (try simp only [show (k45).sz = 4 from rfl, Nat.mul_one, Nat.add_zero] at hf17_2); clear hcl17 hcc17 hfr17 hM17) | ((with_reducible refine gate_store (t := 3) (p := 31) rfl ?_); refine store_event (t := 3) (p := 31) (v := ?vo_w18) (w1 := (w16.setCell ⟨go6, (x5_1 : Int).toNat * 4 + 2, none⟩ (.int .i64 (wrap64 ((wrap64 (x1_1 + 1)) + 1))))) ?hg ?ho ?hn ?hr ?_; (case ho => rfl); (case hg => rfl); (case hn => rfl); (case hr => first | (go_simp; done) | (go_simp; rfl)); intro w18 hw; have hg : w16.grownBy w18 (some go6) := (by rw [hw]; exact HP17.2); have hp_ : Kd.R k45 45 w18 w0.heap.size (fun k_ => (P0_ k_ ∨ w.heap.size ≤ k_)) (.slice (some ⟨go6, 0, none⟩) x0_1.length co11) y460 := (by rw [hw, Ny460.out]; exact HP17.1); clear HP17; replace HB := a0_ ((by rw [hw]; exact below_set (HB.out) GB6.out : Below w0.heap.size w0 w18)); replace HK := a0_ (Kept.of_grown (S := (fun k_ => P0_ k_)) hg kp_ (fun k_ e_ => (HO_0.out.1 k_ e_))); replace HO_0 := a0_ (hp_); clear hg hw hp_) | ((with_reducible refine gt_ 69 rfl ?_); refine gs_ 37 Tryz.func69 #[.int .i64 (wrap64 ((wrap64 ((wrap64 (x1_1 + 1)) + 1)) + 1))] ?_; (with_reducible refine (laws_markText.calls k1 (wrap64 ((wrap64 ((wrap64 (x1_1 + 1)) + 1)) + 1)) t461 _ A9.out).mono ?_); rintro e w19 ⟨rfl, hb⟩; refine ⟨_, rfl, ?_⟩; replace HO_0 := a0_ (Kd.R_below (kR_ HO_0.out) hb); replace HK := a0_ (Kept.below (S := (fun k_ => P0_ k_)) kp_ hb); replace HB := a0_ (below_step bq0_ hb); clear hb; have p10 : 0 ≤ (x5_1 : Int) := dec_; have q10 : (x5_1 : Int) < ((x0_1.length : Int) : Int) := dec_; obtain ⟨ce10, hcl10, hM10, hcc10, hfr10⟩ := Kd.R_elem HO_0.out z45 (x5_1 : Int) p10 q10; obtain rfl := k45_openM hM10; have hx10_0 : w19.cell? ⟨go6, (x5_1 : Int).toNat * 4, none⟩ = some (.string ((rd_T45 y460 x5_1).f0)) := hcc10 0 _ rfl; have hx10_1 : w19.cell? ⟨go6, (x5_1 : Int).toNat * 4 + 1, none⟩ = some (.int .i64 ((rd_T45 y460 x5_1).f1)) := hcc10 1 _ rfl; have hx10_2 : w19.cell? ⟨go6, (x5_1 : Int).toNat * 4 + 2, none⟩ = some (.int .i64 ((rd_T45 y460 x5_1).f2)) := hcc10 2 _ rfl; have hx10_3 : w19.cell? ⟨go6, (x5_1 : Int).toNat * 4 + 3, none⟩ = some (.string ((rd_T45 y460 x5_1).f3)) := hcc10 3 _ rfl; have hf10_0 : w19.frozen? ⟨go6, (x5_1 : Int).toNat * 4, none⟩ = false := hfr10 0; have hf10_1 : w19.frozen? ⟨go6, (x5_1 : Int).toNat * 4 + 1, none⟩ = false := hfr10 1; have hf10_2 : w19.frozen? ⟨go6, (x5_1 : Int).toNat * 4 + 2, none⟩ = false := hfr10 2; have hf10_3 : w19.frozen? ⟨go6, (x5_1 : Int).toNat * 4 + 3, none⟩ = false := hfr10 3; clear hcl10 hcc10 hfr10 hM10; replace p10 := eq_true p10; replace q10 := eq_true q10; have HX20 := a0_ (show Kd.R k45 45 w19 w0.heap.size (fun k_ => (P0_ k_ ∨ w.heap.size ≤ k_)) (.slice (some ⟨go6, 0, none⟩) x0_1.length co11) y460 from (kR_ HO_0.out)); obtain ⟨ce20, hcl20, hM20, hcc20, hfr20⟩ := Kd.R_elem HX20.out z45 (x5_1 : Int) (dec_) (by have h_ : (x5_1 : Int) < ((x0_1.length : Int) : Int) := dec_; first | exact h_ | (have e_ := (Kd.R_reads' HO_0.out).1; omega) | simpa using h_); obtain rfl := k45_openM hM20; have HP20 := Kd.R_seg HX20.out (x5_1 : Int) (dec_) (by have h_ : (x5_1 : Int) < ((x0_1.length : Int) : Int) := dec_; first | exact h_ | (have e_ := (Kd.R_reads' HO_0.out).1; omega) | simpa using h_) (seg := [.string t461]) (j := 3) hcl20 hcc20 (show 4 ≤ 4 from by decide) (x' := (⟨(rd_T45 y460 x5_1).f0, (rd_T45 y460 x5_1).f1, (rd_T45 y460 x5_1).f2, t461⟩ : S45)) (k45_mkM _ _ _ (⟨(rd_T45 y460 x5_1).f0, (rd_T45 y460 x5_1).f1, (rd_T45 y460 x5_1).f2, t461⟩ : S45) ) (fun _ hk => hk); have hx20_3 := hcc20 3 _ rfl; (try simp only [show (k45).sz = 4 from rfl, Nat.mul_one, Nat.add_zero] at hx20_3); have hf20_3 := hfr20 3; (try simp only [show (k45).sz = 4 from rfl, Nat.mul_one, Nat.add_zero] at hf20_3); clear hcl20 hcc20 hfr20 hM20) | ((with_reducible refine gate_store (t := 9) (p := 39) rfl ?_); refine store_event (t := 9) (p := 39) (v := ?vo_w21) (w1 := (w19.setCell ⟨go6, (x5_1 : Int).toNat * 4 + 3, none⟩ (.string t461))) ?hg ?ho ?hn ?hr ?_; (case ho => rfl); (case hg => rfl); (case hn => rfl); (case hr => first | (go_simp; done) | (go_simp; rfl)); intro w21 hw; have hg : w19.grownBy w21 (some go6) := (by rw [hw]; exact HP20.2); have hp_ : Kd.R k45 45 w21 w0.heap.size (fun k_ => (P0_ k_ ∨ w.heap.size ≤ k_)) (.slice (some ⟨go6, 0, none⟩) x0_1.length co11) y462 := (by rw [hw, Ny462.out]; exact HP20.1); clear HP20; replace HB := a0_ ((by rw [hw]; exact below_set (HB.out) GB6.out : Below w0.heap.size w0 w21)); replace HK := a0_ (Kept.of_grown (S := (fun k_ => P0_ k_)) hg kp_ (fun k_ e_ => (HO_0.out.1 k_ e_))); replace HO_0 := a0_ (hp_); clear hg hw hp_))
   go_roundg k1
   case measure => have := HK1.out; omega
   case rel => exact ⟨(y462), (wrap64 ((wrap64 ((wrap64 ((wrap64 (x1_1 + 1)) + 1)) + 1)) + 1)), (wrap64 (x5_1 + 1)), rs_, rs_, H', jl_ HK1, ⟨kR_ HO_0.out⟩, ⟨kp_⟩, ⟨bq0_⟩⟩
def laws_heldRecordS.l0 : Nat → List (S45) → Int → Int → Option (Int)
 | 0, _, _, _ => none
 | k + 1, x0, x1, x5 => if x5 < (x0.length : Int) then (if 0 ≤ x5 then ((laws_markText.f k x1).bind fun t464 => (if ((rd_T45 x0 x5).f0).toList = t464.toList then (if ((rd_T45 x0 x5).f1) = (wrap64 (x1 + 1)) then (if ((rd_T45 x0 x5).f2) = (wrap64 ((wrap64 (x1 + 1)) + 1)) then ((laws_markText.f k (wrap64 ((wrap64 ((wrap64 (x1 + 1)) + 1)) + 1))).bind fun t468 => (if ((rd_T45 x0 x5).f3).toList = t468.toList then (laws_heldRecordS.l0 k x0 (wrap64 ((wrap64 ((wrap64 ((wrap64 (x1 + 1)) + 1)) + 1)) + 1)) (wrap64 (x5 + 1))) else (some (-1)))) else (some (-1))) else (some (-1))) else (some (-1)))) else (none)) else (some x1)
def laws_heldRecordS.f (k : Nat) (l0 : List (S45)) (a1 : Int) : Option (Int) := laws_heldRecordS.l0 k l0 a1 0
def laws_heldRecordS.T4 : Bool × List (List Nat × List Nat) := (true, [([], []), ([], []), ([0, 1], [0, 1]), ([2], [2]), ([3], [3]), ([], []), ([5], [5]), ([4, 6], [4, 6])])
def laws_heldRecordS.B4 : List Nat := [0, 0, 3, 7, 15, 0, 32, 127]
theorem laws_heldRecordS.tab4 : rtab .any (opsOf Tryz.f20 4) = laws_heldRecordS.T4 := by kernel_rfl
theorem laws_heldRecordS.bits4 : waitsOk laws_heldRecordS.T4.2 laws_heldRecordS.B4 = true := by kernel_rfl
def laws_heldRecordS.T13 : Bool × List (List Nat × List Nat) := (true, [([], []), ([], []), ([0, 1], [0, 1]), ([2], [2]), ([3], [3]), ([], []), ([5], [5]), ([4, 6], [4, 6])])
def laws_heldRecordS.B13 : List Nat := [0, 0, 3, 7, 15, 0, 32, 127]
theorem laws_heldRecordS.tab13 : rtab .any (opsOf Tryz.f20 13) = laws_heldRecordS.T13 := by kernel_rfl
theorem laws_heldRecordS.bits13 : waitsOk laws_heldRecordS.T13.2 laws_heldRecordS.B13 = true := by kernel_rfl
theorem laws_heldRecordS.calls (k : Nat) (A0 : Option Addr) (c0 : Nat) (l0 : List (S45)) (a1 : Int) (r : Int) (w : World) (hr0 : Kd.C k45 w A0 l0.length l0) (hc0 : l0.length ≤ c0) (h : laws_heldRecordS.f k l0 a1 = some r) :
 Calls Tryz.prog 20 #[.slice A0 l0.length c0, .int .i64 a1] w fun e w' => e = .returned (.int .i64 r) ∧ Below w.heap.size w w' := by
 have HR0 := a0_ hr0
 have HC0 := a0_ hc0
 clear hr0 hc0
 have HB := a0_ (Below.refl w.heap.size w)
 have H : (laws_heldRecordS.l0 k l0 a1 0) = some r := h
 clear h
 have H' := a0_ H
 clear H
 go_enter Tryz.func20, Tryz.ntmps20
 go_wp2
 go_loopg [1, 5] k (fun kq v1 v5 w' => ∃ (x1_1 : Int) (x5_1 : Int), v1 = .int .i64 x1_1 ∧ v5 = .int .i64 x5_1 ∧ Aside0 (laws_heldRecordS.l0 kq l0 x1_1 x5_1 = some r) ∧ Aside0 (kq ≤ k) ∧ Aside0 (Below w.heap.size w w'))
 case atStart => exact ⟨(a1), (0), rs_, rs_, H', ⟨Nat.le_refl _⟩, ⟨bq0_⟩⟩
 case round =>
  clear H'
  obtain ⟨x1_1, x5_1, rfl, rfl, HA, HK1, HB⟩ := hrel
  cases gk with
  | zero => exact absurd HA.out (by simp [laws_heldRecordS.l0])
  | succ k1 =>
   have H := HA.out
   clear HA
   simp only [laws_heldRecordS.l0] at H
   by_cases c3 : x5_1 < (l0.length : Int)
   case neg =>
    rw [if_neg c3] at H
    have c3b0 := decide_eq_false c3
    clear c3
    obtain rfl := Option.some.inj H
    go_wp2
    go_ret
    exact ⟨rr_, bq0_⟩
   rw [if_pos c3] at H
   have c3b0 := decide_eq_true c3
   clear c3
   by_cases c4 : 0 ≤ x5_1
   case neg =>
    rw [if_neg c4] at H
    exact absurd H (by simp)
   rw [if_pos c4] at H
   have c4b0 := decide_eq_true c4
   clear c4
   obtain ⟨t464, A5, H⟩ := ob_ H
   by_cases c6 : ((rd_T45 l0 x5_1).f0).toList = t464.toList
   case neg =>
    rw [if_neg c6] at H
    have c6b0 := beq_eq_false_iff_ne.mpr c6
    have c6b1 := bne_iff_ne.mpr c6
    obtain rfl := Option.some.inj H
    try go_wp2
    replace HB := a0_ (below_drew1 HB.out)
    have p463 := t0_ (x5_1)
    have q463 := tl_ (x5_1) (l0.length)
    obtain ⟨ad463, e463, hw463_0, hw463_1, hw463_2, hw463_3, hx463_0, hx463_1, hx463_2, hx463_3⟩ := rp_ HB (at_T45 HR0.out x5_1 (of_eq_true p463) (of_eq_true q463))
    cases e463
    refine stH_ 8 [] (eu_ HB.out hw463_0 hw463_1 hw463_2 hw463_3) (fun hHeld => ?_); refine with_tabW laws_heldRecordS.tab4 laws_heldRecordS.bits4 (fun HT_ HW_ => ?_)
    generalize wr.drew = w23 at HB hx463_0 hx463_1 hx463_2 hx463_3 hHeld ⊢
    refine p_ 0 12 ?_
    refine p_ 1 13 ?_
    refine p_ 2 14 ?_
    refine p_ 3 15 ?_
    refine p_ 5 17 ?_
    refine t_ 4 16 ?_
    refine oneS_ 6 (some 18) (fun K hK => ?_)
    refine goes_ Tryz.func69 (by kernel_rfl) rfl #[.int .i64 x1_1] (by rfl) rfl rfl argsS_ ?_
    with_reducible refine (laws_markText.calls k1 x1_1 t464 _ A5.out).mono ?_
    rintro e w24 ⟨rfl, hb⟩
    refine ⟨_, rfl, ?_⟩
    replace HB := a0_ (below_step bq0_ hb)
    (try clear hb)
    (try clear hb2)
    (try clear hk)
    (try clear hi)
    refine hK.out _ _ (eu_ HB.out hw463_0 hw463_1 hw463_2 hw463_3).out (fun hHeld => ?_)
    clear hK K
    refine normS_ ?_
    refine p_ 7 19 ?_
    refine done_ (done_of HT_.out (by kernel_rfl)) ?_
    try go_wp2
    go_ret
    exact ⟨rr_, bq0_⟩
   rw [if_pos c6] at H
   have c6b0 := beq_iff_eq.mpr c6
   have c6b1 := bne_eq_false_iff_eq.mpr c6
   clear c6
   by_cases c7 : ((rd_T45 l0 x5_1).f1) = (wrap64 (x1_1 + 1))
   case neg =>
    rw [if_neg c7] at H
    have c7b0 := beq_eq_false_iff_ne.mpr c7
    have c7b1 := bne_iff_ne.mpr c7
    obtain rfl := Option.some.inj H
    try go_wp2
    replace HB := a0_ (below_drew1 HB.out)
    have p463 := t0_ (x5_1)
    have q463 := tl_ (x5_1) (l0.length)
    obtain ⟨ad463, e463, hw463_0, hw463_1, hw463_2, hw463_3, hx463_0, hx463_1, hx463_2, hx463_3⟩ := rp_ HB (at_T45 HR0.out x5_1 (of_eq_true p463) (of_eq_true q463))
    cases e463
    refine stH_ 8 [] (eu_ HB.out hw463_0 hw463_1 hw463_2 hw463_3) (fun hHeld => ?_); refine with_tabW laws_heldRecordS.tab4 laws_heldRecordS.bits4 (fun HT_ HW_ => ?_)
    generalize wr.drew = w21 at HB hx463_0 hx463_1 hx463_2 hx463_3 hHeld ⊢
    refine p_ 0 12 ?_
    refine p_ 1 13 ?_
    refine p_ 2 14 ?_
    refine p_ 3 15 ?_
    refine p_ 5 17 ?_
    refine t_ 4 16 ?_
    refine oneS_ 6 (some 18) (fun K hK => ?_)
    refine goes_ Tryz.func69 (by kernel_rfl) rfl #[.int .i64 x1_1] (by rfl) rfl rfl argsS_ ?_
    with_reducible refine (laws_markText.calls k1 x1_1 t464 _ A5.out).mono ?_
    rintro e w22 ⟨rfl, hb⟩
    refine ⟨_, rfl, ?_⟩
    replace HB := a0_ (below_step bq0_ hb)
    (try clear hb)
    (try clear hb2)
    (try clear hk)
    (try clear hi)
    refine hK.out _ _ (eu_ HB.out hw463_0 hw463_1 hw463_2 hw463_3).out (fun hHeld => ?_)
    clear hK K
    refine normS_ ?_
    refine p_ 7 19 ?_
    refine done_ (done_of HT_.out (by kernel_rfl)) ?_
    have p465 := t0_ (x5_1)
    have q465 := tl_ (x5_1) (l0.length)
    obtain ⟨ad465, e465, -, -, -, -, hx465_0, hx465_1, hx465_2, hx465_3⟩ := rp_ HB (at_T45 HR0.out x5_1 (of_eq_true p465) (of_eq_true q465))
    obtain rfl : ad463 = ad465 := (by injection e465)
    try go_wp2
    go_ret
    exact ⟨rr_, bq0_⟩
   rw [if_pos c7] at H
   have c7b0 := beq_iff_eq.mpr c7
   have c7b1 := bne_eq_false_iff_eq.mpr c7
   clear c7
   by_cases c8 : ((rd_T45 l0 x5_1).f2) = (wrap64 ((wrap64 (x1_1 + 1)) + 1))
   case neg =>
    rw [if_neg c8] at H
    have c8b0 := beq_eq_false_iff_ne.mpr c8
    have c8b1 := bne_iff_ne.mpr c8
    obtain rfl := Option.some.inj H
    try go_wp2
    replace HB := a0_ (below_drew1 HB.out)
    have p463 := t0_ (x5_1)
    have q463 := tl_ (x5_1) (l0.length)
    obtain ⟨ad463, e463, hw463_0, hw463_1, hw463_2, hw463_3, hx463_0, hx463_1, hx463_2, hx463_3⟩ := rp_ HB (at_T45 HR0.out x5_1 (of_eq_true p463) (of_eq_true q463))
    cases e463
    refine stH_ 8 [] (eu_ HB.out hw463_0 hw463_1 hw463_2 hw463_3) (fun hHeld => ?_); refine with_tabW laws_heldRecordS.tab4 laws_heldRecordS.bits4 (fun HT_ HW_ => ?_)
    generalize wr.drew = w19 at HB hx463_0 hx463_1 hx463_2 hx463_3 hHeld ⊢
    refine p_ 0 12 ?_
    refine p_ 1 13 ?_
    refine p_ 2 14 ?_
    refine p_ 3 15 ?_
    refine p_ 5 17 ?_
    refine t_ 4 16 ?_
    refine oneS_ 6 (some 18) (fun K hK => ?_)
    refine goes_ Tryz.func69 (by kernel_rfl) rfl #[.int .i64 x1_1] (by rfl) rfl rfl argsS_ ?_
    with_reducible refine (laws_markText.calls k1 x1_1 t464 _ A5.out).mono ?_
    rintro e w20 ⟨rfl, hb⟩
    refine ⟨_, rfl, ?_⟩
    replace HB := a0_ (below_step bq0_ hb)
    (try clear hb)
    (try clear hb2)
    (try clear hk)
    (try clear hi)
    refine hK.out _ _ (eu_ HB.out hw463_0 hw463_1 hw463_2 hw463_3).out (fun hHeld => ?_)
    clear hK K
    refine normS_ ?_
    refine p_ 7 19 ?_
    refine done_ (done_of HT_.out (by kernel_rfl)) ?_
    have p465 := t0_ (x5_1)
    have q465 := tl_ (x5_1) (l0.length)
    obtain ⟨ad465, e465, -, -, -, -, hx465_0, hx465_1, hx465_2, hx465_3⟩ := rp_ HB (at_T45 HR0.out x5_1 (of_eq_true p465) (of_eq_true q465))
    obtain rfl : ad463 = ad465 := (by injection e465)
    have p466 := t0_ (x5_1)
    have q466 := tl_ (x5_1) (l0.length)
    obtain ⟨ad466, e466, -, -, -, -, hx466_0, hx466_1, hx466_2, hx466_3⟩ := rp_ HB (at_T45 HR0.out x5_1 (of_eq_true p466) (of_eq_true q466))
    obtain rfl : ad463 = ad466 := (by injection e466)
    try go_wp2
    go_ret
    exact ⟨rr_, bq0_⟩
   rw [if_pos c8] at H
   have c8b0 := beq_iff_eq.mpr c8
   have c8b1 := bne_eq_false_iff_eq.mpr c8
   clear c8
   obtain ⟨t468, A9, H⟩ := ob_ H
   by_cases c10 : ((rd_T45 l0 x5_1).f3).toList = t468.toList
   case neg =>
    rw [if_neg c10] at H
    have c10b0 := beq_eq_false_iff_ne.mpr c10
    have c10b1 := bne_iff_ne.mpr c10
    obtain rfl := Option.some.inj H
    try go_wp2
    replace HB := a0_ (below_drew1 HB.out)
    have p463 := t0_ (x5_1)
    have q463 := tl_ (x5_1) (l0.length)
    obtain ⟨ad463, e463, hw463_0, hw463_1, hw463_2, hw463_3, hx463_0, hx463_1, hx463_2, hx463_3⟩ := rp_ HB (at_T45 HR0.out x5_1 (of_eq_true p463) (of_eq_true q463))
    cases e463
    refine stH_ 8 [] (eu_ HB.out hw463_0 hw463_1 hw463_2 hw463_3) (fun hHeld => ?_); refine with_tabW laws_heldRecordS.tab4 laws_heldRecordS.bits4 (fun HT_ HW_ => ?_)
    generalize wr.drew = w15 at HB hx463_0 hx463_1 hx463_2 hx463_3 hHeld ⊢
    refine p_ 0 12 ?_
    refine p_ 1 13 ?_
    refine p_ 2 14 ?_
    refine p_ 3 15 ?_
    refine p_ 5 17 ?_
    refine t_ 4 16 ?_
    refine oneS_ 6 (some 18) (fun K hK => ?_)
    refine goes_ Tryz.func69 (by kernel_rfl) rfl #[.int .i64 x1_1] (by rfl) rfl rfl argsS_ ?_
    with_reducible refine (laws_markText.calls k1 x1_1 t464 _ A5.out).mono ?_
    rintro e w16 ⟨rfl, hb⟩
    refine ⟨_, rfl, ?_⟩
    replace HB := a0_ (below_step bq0_ hb)
    (try clear hb)
    (try clear hb2)
    (try clear hk)
    (try clear hi)
    refine hK.out _ _ (eu_ HB.out hw463_0 hw463_1 hw463_2 hw463_3).out (fun hHeld => ?_)
    clear hK K
    refine normS_ ?_
    refine p_ 7 19 ?_
    refine done_ (done_of HT_.out (by kernel_rfl)) ?_
    have p465 := t0_ (x5_1)
    have q465 := tl_ (x5_1) (l0.length)
    obtain ⟨ad465, e465, -, -, -, -, hx465_0, hx465_1, hx465_2, hx465_3⟩ := rp_ HB (at_T45 HR0.out x5_1 (of_eq_true p465) (of_eq_true q465))
    obtain rfl : ad463 = ad465 := (by injection e465)
    have p466 := t0_ (x5_1)
    have q466 := tl_ (x5_1) (l0.length)
    obtain ⟨ad466, e466, -, -, -, -, hx466_0, hx466_1, hx466_2, hx466_3⟩ := rp_ HB (at_T45 HR0.out x5_1 (of_eq_true p466) (of_eq_true q466))
    obtain rfl : ad463 = ad466 := (by injection e466)
    try go_wp2
    replace HB := a0_ (below_drew1 HB.out)
    have p467 := t0_ (x5_1)
    have q467 := tl_ (x5_1) (l0.length)
    obtain ⟨ad467, e467, hw467_0, hw467_1, hw467_2, hw467_3, hx467_0, hx467_1, hx467_2, hx467_3⟩ := rp_ HB (at_T45 HR0.out x5_1 (of_eq_true p467) (of_eq_true q467))
    obtain rfl : ad463 = ad467 := (by injection e467)
    refine stH_ 8 [] (eu_ HB.out hw467_0 hw467_1 hw467_2 hw467_3) (fun hHeld => ?_); refine with_tabW laws_heldRecordS.tab13 laws_heldRecordS.bits13 (fun HT_ HW_ => ?_)
    generalize w16.drew = w17 at HB hx467_0 hx467_1 hx467_2 hx467_3 hHeld ⊢
    refine p_ 0 40 ?_
    refine p_ 1 41 ?_
    refine p_ 2 42 ?_
    refine p_ 3 43 ?_
    refine p_ 5 45 ?_
    refine t_ 4 44 ?_
    refine oneS_ 6 (some 46) (fun K hK => ?_)
    refine goes_ Tryz.func69 (by kernel_rfl) rfl #[.int .i64 (wrap64 ((wrap64 ((wrap64 (x1_1 + 1)) + 1)) + 1))] (by rfl) rfl rfl argsS_ ?_
    with_reducible refine (laws_markText.calls k1 (wrap64 ((wrap64 ((wrap64 (x1_1 + 1)) + 1)) + 1)) t468 _ A9.out).mono ?_
    rintro e w18 ⟨rfl, hb⟩
    refine ⟨_, rfl, ?_⟩
    replace HB := a0_ (below_step bq0_ hb)
    (try clear hb)
    (try clear hb2)
    (try clear hk)
    (try clear hi)
    refine hK.out _ _ (eu_ HB.out hw467_0 hw467_1 hw467_2 hw467_3).out (fun hHeld => ?_)
    clear hK K
    refine normS_ ?_
    refine p_ 7 47 ?_
    refine done_ (done_of HT_.out (by kernel_rfl)) ?_
    try go_wp2
    go_ret
    exact ⟨rr_, bq0_⟩
   rw [if_pos c10] at H
   have c10b0 := beq_iff_eq.mpr c10
   have c10b1 := bne_eq_false_iff_eq.mpr c10
   clear c10
   have H' := a0_ H
   clear H
   try go_wp2
   replace HB := a0_ (below_drew1 HB.out)
   have p463 := t0_ (x5_1)
   have q463 := tl_ (x5_1) (l0.length)
   obtain ⟨ad463, e463, hw463_0, hw463_1, hw463_2, hw463_3, hx463_0, hx463_1, hx463_2, hx463_3⟩ := rp_ HB (at_T45 HR0.out x5_1 (of_eq_true p463) (of_eq_true q463))
   cases e463
   refine stH_ 8 [] (eu_ HB.out hw463_0 hw463_1 hw463_2 hw463_3) (fun hHeld => ?_); refine with_tabW laws_heldRecordS.tab4 laws_heldRecordS.bits4 (fun HT_ HW_ => ?_)
   generalize wr.drew = w11 at HB hx463_0 hx463_1 hx463_2 hx463_3 hHeld ⊢
   refine p_ 0 12 ?_
   refine p_ 1 13 ?_
   refine p_ 2 14 ?_
   refine p_ 3 15 ?_
   refine p_ 5 17 ?_
   refine t_ 4 16 ?_
   refine oneS_ 6 (some 18) (fun K hK => ?_)
   refine goes_ Tryz.func69 (by kernel_rfl) rfl #[.int .i64 x1_1] (by rfl) rfl rfl argsS_ ?_
   with_reducible refine (laws_markText.calls k1 x1_1 t464 _ A5.out).mono ?_
   rintro e w12 ⟨rfl, hb⟩
   refine ⟨_, rfl, ?_⟩
   replace HB := a0_ (below_step bq0_ hb)
   (try clear hb)
   (try clear hb2)
   (try clear hk)
   (try clear hi)
   refine hK.out _ _ (eu_ HB.out hw463_0 hw463_1 hw463_2 hw463_3).out (fun hHeld => ?_)
   clear hK K
   refine normS_ ?_
   refine p_ 7 19 ?_
   refine done_ (done_of HT_.out (by kernel_rfl)) ?_
   have p465 := t0_ (x5_1)
   have q465 := tl_ (x5_1) (l0.length)
   obtain ⟨ad465, e465, -, -, -, -, hx465_0, hx465_1, hx465_2, hx465_3⟩ := rp_ HB (at_T45 HR0.out x5_1 (of_eq_true p465) (of_eq_true q465))
   obtain rfl : ad463 = ad465 := (by injection e465)
   have p466 := t0_ (x5_1)
   have q466 := tl_ (x5_1) (l0.length)
   obtain ⟨ad466, e466, -, -, -, -, hx466_0, hx466_1, hx466_2, hx466_3⟩ := rp_ HB (at_T45 HR0.out x5_1 (of_eq_true p466) (of_eq_true q466))
   obtain rfl : ad463 = ad466 := (by injection e466)
   try go_wp2
   replace HB := a0_ (below_drew1 HB.out)
   have p467 := t0_ (x5_1)
   have q467 := tl_ (x5_1) (l0.length)
   obtain ⟨ad467, e467, hw467_0, hw467_1, hw467_2, hw467_3, hx467_0, hx467_1, hx467_2, hx467_3⟩ := rp_ HB (at_T45 HR0.out x5_1 (of_eq_true p467) (of_eq_true q467))
   obtain rfl : ad463 = ad467 := (by injection e467)
   refine stH_ 8 [] (eu_ HB.out hw467_0 hw467_1 hw467_2 hw467_3) (fun hHeld => ?_); refine with_tabW laws_heldRecordS.tab13 laws_heldRecordS.bits13 (fun HT_ HW_ => ?_)
   generalize w12.drew = w13 at HB hx467_0 hx467_1 hx467_2 hx467_3 hHeld ⊢
   refine p_ 0 40 ?_
   refine p_ 1 41 ?_
   refine p_ 2 42 ?_
   refine p_ 3 43 ?_
   refine p_ 5 45 ?_
   refine t_ 4 44 ?_
   refine oneS_ 6 (some 46) (fun K hK => ?_)
   refine goes_ Tryz.func69 (by kernel_rfl) rfl #[.int .i64 (wrap64 ((wrap64 ((wrap64 (x1_1 + 1)) + 1)) + 1))] (by rfl) rfl rfl argsS_ ?_
   with_reducible refine (laws_markText.calls k1 (wrap64 ((wrap64 ((wrap64 (x1_1 + 1)) + 1)) + 1)) t468 _ A9.out).mono ?_
   rintro e w14 ⟨rfl, hb⟩
   refine ⟨_, rfl, ?_⟩
   replace HB := a0_ (below_step bq0_ hb)
   (try clear hb)
   (try clear hb2)
   (try clear hk)
   (try clear hi)
   refine hK.out _ _ (eu_ HB.out hw467_0 hw467_1 hw467_2 hw467_3).out (fun hHeld => ?_)
   clear hK K
   refine normS_ ?_
   refine p_ 7 47 ?_
   refine done_ (done_of HT_.out (by kernel_rfl)) ?_
   try go_wp2
   go_roundg k1
   case measure => have := HK1.out; omega
   case rel => exact ⟨(wrap64 ((wrap64 ((wrap64 ((wrap64 (x1_1 + 1)) + 1)) + 1)) + 1)), (wrap64 (x5_1 + 1)), rs_, rs_, H', jl_ HK1, ⟨bq0_⟩⟩
def spec_l3Type.f (k : Nat) (a0 : Int) : Option (Bool) := (spec_l1Has.f k (([1, 2, 5, 6, 15, 16] : List Int)) a0).bind fun t891 => (some t891)
theorem spec_l3Type.calls (k : Nat) (a0 : Int) (r : Bool) (w : World) (h : spec_l3Type.f k a0 = some r) :
 Calls Tryz.prog 157 #[.int .i64 a0] w fun e w' => e = .returned (.bool r) ∧ Below w.heap.size w w' := by
 have HB := a0_ (Below.refl w.heap.size w)
 have H := h
 clear h
 unfold spec_l3Type.f at H
 obtain ⟨y888, hy888⟩ : ∃ y_ : List Int, y_ = (([1, 2, 5, 6, 15, 16] : List Int)) := ⟨_, rfl⟩
 rw [← hy888] at H
 have Ny888 := a0_ hy888
 clear hy888
 obtain ⟨t891, A2, H⟩ := ob_ H
 obtain rfl := Option.some.inj H
 go_enter Tryz.func157, Tryz.ntmps157
 go_wp2_with (first | ((with_reducible refine gate_dst (N := 3) rfl ?_); refine Kd.R_lit (Kd.int .i64) _ 3 ?hg (N := 3) ?hd (xs := ([1, 2, 5, 6, 15, 16] : List Int)) (inner := [.int .i64 1, .int .i64 2, .int .i64 5, .int .i64 6, .int .i64 15, .int .i64 16]) (ok := fun _ => True) (okp := fun _ => True) ?hr ?hp (fun _ hk => hk) trivial (Below.refl _ _) (Nat.le_refl _) (by simp) ?_; (case hd => rfl); (case hg => rfl); (case hr => first | (go_simp; done) | (go_simp; rfl)); (case hp => exact (Reps.one (show Kd.M (Kd.int .i64) _ _ _ 1 [.int .i64 1] from rfl) (Reps.one (show Kd.M (Kd.int .i64) _ _ _ 2 [.int .i64 2] from rfl) (Reps.one (show Kd.M (Kd.int .i64) _ _ _ 5 [.int .i64 5] from rfl) (Reps.one (show Kd.M (Kd.int .i64) _ _ _ 6 [.int .i64 6] from rfl) (Reps.one (show Kd.M (Kd.int .i64) _ _ _ 15 [.int .i64 15] from rfl) (Reps.one (show Kd.M (Kd.int .i64) _ _ _ 16 [.int .i64 16] from rfl) (Reps.none _ _)))))))); intro v889 w3 ho4 hb hg_ hnew_; clear hg_ hnew_; (first | rw [← Ny888.out] at ho4 | (simp only [Int.reduceToNat] at ho4; rw [← Ny888.out] at ho4)); have HO890 := a0_ (Kd.R_lower ho4 (below_size bq0_)); replace HB := a0_ (below_step bq0_ hb); clear hb ho4; obtain ⟨Ao5, co5, eo5⟩ := Kd.R_slice HO890.out; subst eo5) | ((with_reducible refine gt_ 156 rfl ?_); refine gs_ 5 Tryz.func156 #[.slice Ao5 y888.length co5, .int .i64 a0] ?_; (with_reducible refine (spec_l1Has.calls k _ _ y888 a0 t891 _ ?side1 ?side2 A2.out).mono ?_); (case side1 => exact kD_ (Kd.R_reads' HO890.out).2.2); (case side2 => exact (Kd.R_reads' HO890.out).2.1); rintro e w' ⟨rfl, ⟨nd, rfl⟩⟩; refine ⟨_, rfl, ?_⟩))
 go_ret
 exact ⟨rr_, bq0_⟩
end Go.Proofs.YtiegkjimpclmaaaGreatDoor.P
