/- FnExactRecordText: part 29 of 30 of my texts for this claim, joined; the theorem stands in the last. Conditions: none beyond the statement's. -/
import Derived.Test.YtecmicedacppbaaDoorMFnExactRecordTextx3
import Derived.Test.YtecmicedacppbaaDoorMFnExactRecordTextx19
import Derived.Test.YtecmicedacppbaaDoorMFnExactRecordTextx27
import Derived.Test.YtecmicedacppbaaDoorMFnExactRecordTextx14
import Derived.Test.YtecmicedacppbaaDoorMFnExactRecordTextx26
import Derived.Test.YtecmicedacppbaaDoorMFnExactRecordTextx13
import Derived.Test.YtecmicedacppbaaDoorMFnExactRecordTextx20
import Derived.Lib.ItoaLen
import Derived.Test.YtecmicedacppbaaDoorMFnExactRecordTextx21
import Derived.Test.YtecmicedacppbaaDoorMFnExactRecordTextx22
-- F15
-- By my own call of the kit's print (wip/tools/pp.py).
namespace Go.Proofs.YtecmicedacppbaaDoor.P
open Go.RowKit Go.Proofs.YtecmicedacppbaaDoorW.PrintWords Go.Proofs.YtecmicedacppbaaDoorW.PrintLast Go.Proofs.YtecmicedacppbaaDoorW.PrintMore
attribute [local go_sem] max2_int min2_int max_two min_two max_three min_three max_four min_four
set_option linter.unusedVariables false
set_option linter.unusedSimpArgs false

/-! ### impl_TargetOf: function 15 -/
def impl_TargetOf.f (k : Nat) (a0_0 : ByteArray) (a0_1 : Int) (a0_2 : Int) (a0_3 : ByteArray) : Option (ByteArray × Bool) := (impl_GoodRecord.f k a0_0 a0_1 a0_2 a0_3).bind fun t265 => (if t265 = true then ((impl_targetOf.f k a0_0 a0_1 a0_2 a0_3).bind fun bt266 => (some (bt266.1, bt266.2))) else (some ((⟨#[]⟩ : ByteArray), false)))
theorem impl_TargetOf.mono : ∀ a0 a1 a2 a3 k, LeO (impl_TargetOf.f k a0 a1 a2 a3) (impl_TargetOf.f (k + 1) a0 a1 a2 a3) := by
  intro a0 a1 a2 a3 k
  unfold impl_TargetOf.f
  repeat' first
      | (with_reducible exact impl_GoodRecord.mono _ _ _ _ _)
      | (with_reducible exact impl_targetOf.mono _ _ _ _ _)
      | (with_reducible exact LeO.refl _)
      | (with_reducible exact LeO.none _)
      | (with_reducible refine LeO.ite ?_ ?_)
      | (with_reducible refine LeO.bind ?_ (fun _ => ?_))
      | exact impl_GoodRecord.mono _ _ _ _ _
      | exact impl_targetOf.mono _ _ _ _ _
      | exact LeO.none _
      | refine LeO.ite ?_ ?_
      | refine LeO.bind ?_ (fun _ => ?_)
set_option maxHeartbeats 8000000 in
set_option maxRecDepth 100000 in
theorem impl_TargetOf.calls (k : Nat) (a0_0 : ByteArray) (a0_1 : Int) (a0_2 : Int) (a0_3 : ByteArray) (r1 : ByteArray) (r2 : Bool) (w : World) (h : impl_TargetOf.f k a0_0 a0_1 a0_2 a0_3 = some (r1, r2)) (hv_ : Vars w := by first | assumption | (refine Vars.below (Aside0.out (by assumption)) ?_; repeat (first | (with_reducible first | exact Below.refl _ _ | exact Aside0.out (by assumption) | apply below_alloc | apply pw_below_drewN | apply below_drew1) | exact Aside0.out (by assumption)))) :
    Calls Tryd.prog 15 #[.agg #[.string a0_0, .int .i64 a0_1, .int .i64 a0_2, .string a0_3]] w fun e w' => e = .returned (.tuple #[.string r1, .bool r2]) ∧ Below w.heap.size w w' := by
  have HV_ := Aside0.mk hv_
  clear hv_
  have hu29 := Tryd.underlying29
  have HB := Aside0.mk (Below.refl w.heap.size w)
  have H : ((impl_GoodRecord.f k a0_0 a0_1 a0_2 a0_3).bind fun t265 => (if t265 = true then ((impl_targetOf.f k a0_0 a0_1 a0_2 a0_3).bind fun bt266 => (some (bt266.1, bt266.2))) else (some ((⟨#[]⟩ : ByteArray), false)))) = some (r1, r2) := h
  clear h
  replace H := Option.bind_eq_some_iff.mp H
  obtain ⟨t265, A20, H⟩ := H
  replace H : (if t265 = true then ((impl_targetOf.f k a0_0 a0_1 a0_2 a0_3).bind fun bt266 => (some (bt266.1, bt266.2))) else (some ((⟨#[]⟩ : ByteArray), false))) = some (r1, r2) := H
  have A2 := Aside0.mk A20
  clear A20
  by_cases c3 : t265 = true
  · subst c3
    have H1 : ((impl_targetOf.f k a0_0 a0_1 a0_2 a0_3).bind fun bt266 => (some (bt266.1, bt266.2))) = some (r1, r2) := by rw [if_pos rfl] at H; exact H
    clear H
    have H := H1
    clear H1
    replace H := Option.bind_eq_some_iff.mp H
    obtain ⟨⟨t266, t267⟩, A40, H⟩ := H
    replace H : (some (t266, t267)) = some (r1, r2) := H
    have A4 := Aside0.mk A40
    clear A40
    simp only [Option.some.injEq, Prod.mk.injEq] at H
    obtain ⟨rfl, rfl⟩ := H
    go_enter Tryd.func15, Tryd.ntmps15
    go_wp2_with (first | ((with_reducible refine gate_dst (N := 1) rfl ?_); refine box_event ?hg (N := 1) ?hd (cs := #[.string a0_0, .int .i64 a0_1, .int .i64 a0_2, .string a0_3]) (t := 29) ?hr ?_; (case hd => rfl); (case hg => rfl); (case hr => first | (go_simp; done) | (go_simp; rfl)); intro gb264 hg w5 hbox hb; have n0_ := Aside0.mk (below_step (by repeat (first | (with_reducible first | exact HB.out | apply below_alloc | apply pw_below_drewN | apply below_drew1) | exact HB.out)) hb); have n1_ := Aside0.mk (hbox); have n2_ := Aside0.mk ((by rw [hg]; exact (below_size (by repeat (first | (with_reducible first | exact HB.out | apply below_alloc | apply pw_below_drewN | apply below_drew1) | exact HB.out))) : w.heap.size ≤ gb264)); have n3_ := Aside0.mk ((by rw [hg]; exact (below_size (by repeat (first | (with_reducible first | exact HB.out | apply below_alloc | apply pw_below_drewN | apply below_drew1) | exact HB.out))) : w.heap.size ≤ gb264)); clear HB; have HB := n0_; have BK264 := n1_; have GW264 := n2_; have GE264 := n3_; clear n0_ n1_ n2_ n3_; clear hb hbox hg; have hcz6_0 : w5.cell? ⟨gb264, 0, none⟩ = some (.string a0_0) := (blk_cell BK264.out 0).trans rfl; have hcz6_1 : w5.cell? ⟨gb264, 1, none⟩ = some (.int .i64 a0_1) := (blk_cell BK264.out 1).trans rfl; have hcz6_2 : w5.cell? ⟨gb264, 2, none⟩ = some (.int .i64 a0_2) := (blk_cell BK264.out 2).trans rfl; have hcz6_3 : w5.cell? ⟨gb264, 3, none⟩ = some (.string a0_3) := (blk_cell BK264.out 3).trans rfl; have hfz6_0 := blk_frozen BK264.out 0; have hfz6_1 := blk_frozen BK264.out 1; have hfz6_2 := blk_frozen BK264.out 2; have hfz6_3 := blk_frozen BK264.out 3) | ((with_reducible refine gate_callee (f := 13) rfl ?_); refine goesL_ (some 5) rfl rfl Tryd.func13 (by kernel_rfl) rfl #[.agg #[.string a0_0, .int .i64 a0_1, .int .i64 a0_2, .string a0_3]] rfl (by (try simp only [List.map_toArray, List.map_cons, List.map_nil]); first | done | rfl | (simp only [List.length_drop, List.length_take]; rfl)) ?_; (with_reducible refine (impl_GoodRecord.calls k a0_0 a0_1 a0_2 a0_3 true _ A2.out).mono ?_); rintro e w7 ⟨rfl, hb⟩; refine ⟨_, rfl, ?_⟩; have n0_ := Aside0.mk (blk_below (g := gb264) (o := .cells #[.string a0_0, .int .i64 a0_1, .int .i64 a0_2, .string a0_3] 29 (0, 0)) (by (with_reducible repeat (first | refine blk_drewN ?_ _ | refine blk_drew ?_ | refine blk_alloc ?_ _)); exact BK264.out) hb); have n1_ := Aside0.mk (below_step (by repeat (first | (with_reducible first | exact HB.out | apply below_alloc | apply pw_below_drewN | apply below_drew1 | refine below_set ?_ GE264.out) | exact HB.out)) hb); clear BK264; clear HB; have BK264 := n0_; have HB := n1_; clear n0_ n1_; (try clear hb); (try clear hb2); (try clear hk); (try clear hi); have hcz8_0 : w7.cell? ⟨gb264, 0, none⟩ = some (.string a0_0) := (blk_cell BK264.out 0).trans rfl; have hcz8_1 : w7.cell? ⟨gb264, 1, none⟩ = some (.int .i64 a0_1) := (blk_cell BK264.out 1).trans rfl; have hcz8_2 : w7.cell? ⟨gb264, 2, none⟩ = some (.int .i64 a0_2) := (blk_cell BK264.out 2).trans rfl; have hcz8_3 : w7.cell? ⟨gb264, 3, none⟩ = some (.string a0_3) := (blk_cell BK264.out 3).trans rfl; have hfz8_0 := blk_frozen BK264.out 0; have hfz8_1 := blk_frozen BK264.out 1; have hfz8_2 := blk_frozen BK264.out 2; have hfz8_3 := blk_frozen BK264.out 3) | ((with_reducible refine gate_callee (f := 35) rfl ?_); refine goesL_ (some 8) rfl rfl Tryd.func35 (by kernel_rfl) rfl #[.agg #[.string a0_0, .int .i64 a0_1, .int .i64 a0_2, .string a0_3]] rfl (by (try simp only [List.map_toArray, List.map_cons, List.map_nil]); first | done | rfl | (simp only [List.length_drop, List.length_take]; rfl)) ?_; (with_reducible refine (impl_targetOf.calls k a0_0 a0_1 a0_2 a0_3 t266 t267 _ A4.out).mono ?_); rintro e w9 ⟨rfl, hb⟩; refine ⟨_, rfl, ?_⟩; have n0_ := Aside0.mk (blk_below (g := gb264) (o := .cells #[.string a0_0, .int .i64 a0_1, .int .i64 a0_2, .string a0_3] 29 (0, 0)) (by (with_reducible repeat (first | refine blk_drewN ?_ _ | refine blk_drew ?_ | refine blk_alloc ?_ _)); exact BK264.out) hb); have n1_ := Aside0.mk (below_step (by repeat (first | (with_reducible first | exact HB.out | apply below_alloc | apply pw_below_drewN | apply below_drew1 | refine below_set ?_ GE264.out) | exact HB.out)) hb); clear BK264; clear HB; have BK264 := n0_; have HB := n1_; clear n0_ n1_; (try clear hb); (try clear hb2); (try clear hk); (try clear hi)))
    go_ret2
    exact ⟨by first | rfl | (simp [errW_none, errW_some] <;> rfl) | (simp [*, errW_none, errW_some] <;> rfl), by repeat (first | (with_reducible first | exact HB.out | apply below_alloc | apply pw_below_drewN | apply below_drew1 | refine below_set ?_ GE264.out) | exact HB.out)⟩
  · replace c3 := Bool.eq_false_iff.mpr c3
    subst c3
    have H1 : (some ((⟨#[]⟩ : ByteArray), false)) = some (r1, r2) := by rw [if_neg (show ¬ (false = true) by decide)] at H; exact H
    clear H
    have H := H1
    clear H1
    simp only [Option.some.injEq, Prod.mk.injEq] at H
    obtain ⟨rfl, rfl⟩ := H
    go_enter Tryd.func15, Tryd.ntmps15
    go_wp2_with (first | ((with_reducible refine gate_dst (N := 1) rfl ?_); refine box_event ?hg (N := 1) ?hd (cs := #[.string a0_0, .int .i64 a0_1, .int .i64 a0_2, .string a0_3]) (t := 29) ?hr ?_; (case hd => rfl); (case hg => rfl); (case hr => first | (go_simp; done) | (go_simp; rfl)); intro gb264 hg w10 hbox hb; have n0_ := Aside0.mk (below_step (by repeat (first | (with_reducible first | exact HB.out | apply below_alloc | apply pw_below_drewN | apply below_drew1) | exact HB.out)) hb); have n1_ := Aside0.mk (hbox); have n2_ := Aside0.mk ((by rw [hg]; exact (below_size (by repeat (first | (with_reducible first | exact HB.out | apply below_alloc | apply pw_below_drewN | apply below_drew1) | exact HB.out))) : w.heap.size ≤ gb264)); have n3_ := Aside0.mk ((by rw [hg]; exact (below_size (by repeat (first | (with_reducible first | exact HB.out | apply below_alloc | apply pw_below_drewN | apply below_drew1) | exact HB.out))) : w.heap.size ≤ gb264)); clear HB; have HB := n0_; have BK264 := n1_; have GW264 := n2_; have GE264 := n3_; clear n0_ n1_ n2_ n3_; clear hb hbox hg; have hcz11_0 : w10.cell? ⟨gb264, 0, none⟩ = some (.string a0_0) := (blk_cell BK264.out 0).trans rfl; have hcz11_1 : w10.cell? ⟨gb264, 1, none⟩ = some (.int .i64 a0_1) := (blk_cell BK264.out 1).trans rfl; have hcz11_2 : w10.cell? ⟨gb264, 2, none⟩ = some (.int .i64 a0_2) := (blk_cell BK264.out 2).trans rfl; have hcz11_3 : w10.cell? ⟨gb264, 3, none⟩ = some (.string a0_3) := (blk_cell BK264.out 3).trans rfl; have hfz11_0 := blk_frozen BK264.out 0; have hfz11_1 := blk_frozen BK264.out 1; have hfz11_2 := blk_frozen BK264.out 2; have hfz11_3 := blk_frozen BK264.out 3) | ((with_reducible refine gate_callee (f := 13) rfl ?_); refine goesL_ (some 5) rfl rfl Tryd.func13 (by kernel_rfl) rfl #[.agg #[.string a0_0, .int .i64 a0_1, .int .i64 a0_2, .string a0_3]] rfl (by (try simp only [List.map_toArray, List.map_cons, List.map_nil]); first | done | rfl | (simp only [List.length_drop, List.length_take]; rfl)) ?_; (with_reducible refine (impl_GoodRecord.calls k a0_0 a0_1 a0_2 a0_3 false _ A2.out).mono ?_); rintro e w12 ⟨rfl, hb⟩; refine ⟨_, rfl, ?_⟩; have n0_ := Aside0.mk (blk_below (g := gb264) (o := .cells #[.string a0_0, .int .i64 a0_1, .int .i64 a0_2, .string a0_3] 29 (0, 0)) (by (with_reducible repeat (first | refine blk_drewN ?_ _ | refine blk_drew ?_ | refine blk_alloc ?_ _)); exact BK264.out) hb); have n1_ := Aside0.mk (below_step (by repeat (first | (with_reducible first | exact HB.out | apply below_alloc | apply pw_below_drewN | apply below_drew1 | refine below_set ?_ GE264.out) | exact HB.out)) hb); clear BK264; clear HB; have BK264 := n0_; have HB := n1_; clear n0_ n1_; (try clear hb); (try clear hb2); (try clear hk); (try clear hi)))
    go_ret2
    exact ⟨by first | rfl | (simp [errW_none, errW_some] <;> rfl) | (simp [*, errW_none, errW_some] <;> rfl), by repeat (first | (with_reducible first | exact HB.out | apply below_alloc | apply pw_below_drewN | apply below_drew1 | refine below_set ?_ GE264.out) | exact HB.out)⟩

end Go.Proofs.YtecmicedacppbaaDoor.P

-- PureTo
/- TargetOf: the reference and the program return the same. Conditions: the texts' sizes. -/
namespace Go.Proofs.YtecmicedacppbaaDoor.Pure
open Go.RowKit Go.Proofs.YtecmicedacppbaaDoor.P Go.Proofs.YtecmicedacppbaaDoorW.PrintWords Go.Proofs.YtecmicedacppbaaDoorW.PrintLast Go.Proofs.YtecmicedacppbaaDoorW.PrintMore
set_option linter.unusedVariables false
set_option linter.unusedSimpArgs false
end Go.Proofs.YtecmicedacppbaaDoor.Pure

-- PureText
/- A record's text: the reference and the program write the same. Conditions: the texts' sizes. -/
namespace Go.Proofs.YtecmicedacppbaaDoor.Pure
open Go.RowKit Go.Proofs.YtecmicedacppbaaDoor.P Go.Proofs.YtecmicedacppbaaDoorW.PrintWords Go.Proofs.YtecmicedacppbaaDoorW.PrintLast Go.Proofs.YtecmicedacppbaaDoorW.PrintMore
set_option linter.unusedVariables false
set_option linter.unusedSimpArgs false
theorem num_one (n : Int) (h0 : 0 ≤ n) (h9 : n < 10) : strOfNums [(wrap64 (48 + n)) % 256] = mkB [UInt8.ofNat (48 + n.toNat)] := by
  have e : wrap64 (48 + n) % 256 = ((48 + n.toNat : Nat) : Int) := by unfold wrap64; omega
  rw [e]
  show strOfNums [((48 + n.toNat : Nat) : Int)] = mkB [UInt8.ofNat (((48 + n.toNat : Nat) : Int).toNat)]
  rfl
theorem mkB_app (p q : List UInt8) : mkB p ++ mkB q = mkB (p ++ q) := by
  apply ByteArray.ext
  simp [mkB, ByteArray.append]
theorem digits_len (u : Nat) (h : u < 9223372036854775807) : (Lib.decDigits u).length ≤ 21 := by
  have := Lib.itoa_length_le (u : Int) (by omega) (by omega)
  rwa [Lib.itoa_nonneg] at this
theorem num_ev : ∀ (n u : Nat), u ≤ n → u < 9223372036854775807 → Ev (fun k => spec_l1Num.f k (u : Int)) (mkB (Lib.decDigits u))
  | n, u, hn, hu => by
    by_cases h10 : u < 10
    · refine Ev.step (f := fun _ => some (mkB (Lib.decDigits u))) (fun k => ?_) (Ev.now _)
      show spec_l1Num.f (k + 1) (u : Int) = _
      unfold spec_l1Num.f
      rw [if_pos (by omega), num_one _ (by omega) (by omega), Lib.decDigits_one h10, Int.toNat_natCast]
    · cases n with
      | zero => omega
      | succ n =>
        have ih := num_ev n (u / 10) (by omega) (by omega)
        have hlen := digits_len (u / 10) (by omega)
        have e1 : wrap64 (Int.tdiv (u : Int) 10) = ((u / 10 : Nat) : Int) := by
          rw [Int.tdiv_eq_ediv_of_nonneg (by omega), show (u : Int) / 10 = ((u / 10 : Nat) : Int) by omega]
          unfold wrap64; omega
        have e2 : Int.tmod (u : Int) 10 = ((u % 10 : Nat) : Int) := by
          rw [Int.tmod_eq_emod_of_nonneg (by omega)]
          omega
        rw [← e1] at ih
        refine Ev.step (f := fun k => (spec_l1Num.f k (wrap64 (Int.tdiv u 10))).bind fun t285 => ((some (([(wrap64 (48 + (Int.tmod u 10))) % 256] : List Int) : List Int)).bind fun y286 => (if t285.size + (strOfNums y286).size ≤ 9223372036854775807 then (some (t285 ++ (strOfNums y286))) else (none)))) (fun k => ?_) (Ev.bind ih ?_)
        · show spec_l1Num.f (k + 1) (u : Int) = _
          rw [spec_l1Num.f, if_neg (by omega)]
        · simp only [Option.bind_some]
          rw [e2, num_one _ (by omega) (by omega), Int.toNat_natCast, mkB_size, mkB_size]
          simp only [if_pos (show (Lib.decDigits (u / 10)).length + [UInt8.ofNat (48 + u % 10)].length ≤ 9223372036854775807 by simp only [List.length_cons, List.length_nil]; omega)]
          rw [mkB_app, show Lib.decDigits (u / 10) ++ [UInt8.ofNat (48 + u % 10)] = Lib.decDigits u by rw [Lib.decDigits.eq_1 u, dif_neg h10]]
          exact Ev.now _
def toldB (a : ByteArray) : ByteArray := if a.toList = ([] : List UInt8) then (⟨#[46]⟩ : ByteArray) else a
def itB (n : Int) : ByteArray := mkB (Lib.decDigits n.toNat)
def rtext (a : ByteArray) (b c : Int) (d : ByteArray) : ByteArray := (((((toldB a ++ (⟨#[32]⟩ : ByteArray)) ++ itB c) ++ (⟨#[32]⟩ : ByteArray)) ++ itB b) ++ (⟨#[32]⟩ : ByteArray)) ++ d
theorem told_size (a : ByteArray) : (toldB a).size ≤ a.size + 1 := by
  unfold toldB
  split
  · show 1 ≤ a.size + 1; omega
  · omega
theorem itB_size (n : Int) (h0 : 0 ≤ n) (h1 : n < 9223372036854775807) : (itB n).size ≤ 21 := by
  unfold itB
  rw [mkB_size]
  exact digits_len _ (by omega)
theorem sp1 : (⟨#[32]⟩ : ByteArray).size = 1 := rfl
theorem rtext_impl (a : ByteArray) (b c : Int) (d : ByteArray) (ha : a.size ≤ 1048576) (hd : d.size ≤ 1048576) (hb : 0 ≤ b ∧ b < 9223372036854775807) (hc : 0 ≤ c ∧ c < 9223372036854775807) : impl_recordText.f a b c d = some (rtext a b c d) := by
  have hi : ∀ n : Int, 0 ≤ n ∧ n < 9223372036854775807 → strconv_Itoa.f n = some (itB n) := fun n hn => by
    unfold strconv_Itoa.f itB Lib.itoa
    rw [if_pos (by omega), if_neg (by omega)]
    rfl
  have t1 := told_size a
  have t2 := itB_size b hb.1 hb.2
  have t3 := itB_size c hc.1 hc.2
  unfold impl_recordText.f impl_told.f
  rw [show (if a.toList = ([] : List UInt8) then some (⟨#[46]⟩ : ByteArray) else some a) = some (toldB a) by unfold toldB; split <;> rfl, hi c hc, hi b hb]
  simp only [Option.bind_some, ByteArray.size_append, sp1]
  rw [if_pos (by omega), if_pos (by omega), if_pos (by omega), if_pos (by omega), if_pos (by omega), if_pos (by omega)]
  rfl
theorem rtext_spec (a : ByteArray) (b c : Int) (d : ByteArray) (ha : a.size ≤ 1048576) (hd : d.size ≤ 1048576) (hb : 0 ≤ b ∧ b < 9223372036854775807) (hc : 0 ≤ c ∧ c < 9223372036854775807) : Ev (fun k => spec_l3Text.f k a b c d) (rtext a b c d) := by
  have hi : ∀ n : Int, 0 ≤ n ∧ n < 9223372036854775807 → Ev (fun k => spec_l1Num.f k n) (itB n) := fun n hn => by
    have := num_ev n.toNat n.toNat (Nat.le_refl _) (by omega)
    rwa [show ((n.toNat : Nat) : Int) = n by omega] at this
  have t1 := told_size a
  have t2 := itB_size b hb.1 hb.2
  have t3 := itB_size c hc.1 hc.2
  have key : ∀ x : ByteArray, x.size ≤ 1048577 → Ev (fun k => if x.size + 1 ≤ 9223372036854775807 then ((spec_l1Num.f k c).bind fun t292 => (if (x ++ (⟨#[32]⟩ : ByteArray)).size + t292.size ≤ 9223372036854775807 then (if ((x ++ (⟨#[32]⟩ : ByteArray)) ++ t292).size + 1 ≤ 9223372036854775807 then ((spec_l1Num.f k b).bind fun t293 => (if (((x ++ (⟨#[32]⟩ : ByteArray)) ++ t292) ++ (⟨#[32]⟩ : ByteArray)).size + t293.size ≤ 9223372036854775807 then (if ((((x ++ (⟨#[32]⟩ : ByteArray)) ++ t292) ++ (⟨#[32]⟩ : ByteArray)) ++ t293).size + 1 ≤ 9223372036854775807 then (if (((((x ++ (⟨#[32]⟩ : ByteArray)) ++ t292) ++ (⟨#[32]⟩ : ByteArray)) ++ t293) ++ (⟨#[32]⟩ : ByteArray)).size + d.size ≤ 9223372036854775807 then (some ((((((x ++ (⟨#[32]⟩ : ByteArray)) ++ t292) ++ (⟨#[32]⟩ : ByteArray)) ++ t293) ++ (⟨#[32]⟩ : ByteArray)) ++ d)) else (none)) else (none)) else (none))) else (none)) else (none))) else (none)) ((((((x ++ (⟨#[32]⟩ : ByteArray)) ++ itB c) ++ (⟨#[32]⟩ : ByteArray)) ++ itB b) ++ (⟨#[32]⟩ : ByteArray)) ++ d) := by
    intro x hx
    simp only [if_pos (show x.size + 1 ≤ 9223372036854775807 by omega)]
    refine Ev.bind (hi c hc) ?_
    simp only [ByteArray.size_append, sp1, if_pos (show x.size + 1 + (itB c).size ≤ 9223372036854775807 by omega), if_pos (show x.size + 1 + (itB c).size + 1 ≤ 9223372036854775807 by omega)]
    refine Ev.bind (hi b hb) ?_
    simp only [if_pos (show x.size + 1 + (itB c).size + 1 + (itB b).size ≤ 9223372036854775807 by omega), if_pos (show x.size + 1 + (itB c).size + 1 + (itB b).size + 1 ≤ 9223372036854775807 by omega), if_pos (show x.size + 1 + (itB c).size + 1 + (itB b).size + 1 + d.size ≤ 9223372036854775807 by omega)]
    exact Ev.now _
  by_cases h : a.toList = ([] : List UInt8)
  · refine Ev.congr (fun k => ?_) (key (toldB a) (by omega))
    unfold spec_l3Text.f toldB
    rw [if_pos h, if_pos h]
    rfl
  · refine Ev.congr (fun k => ?_) (key (toldB a) (by omega))
    unfold spec_l3Text.f toldB
    rw [if_neg h, if_neg h]
theorem data_kind {k : Nat} {kind : Int} {s x : ByteArray} (h : impl_DataBytes.f k kind s = some (x, true)) : 1 ≤ kind ∧ kind ≤ 16 := by
  unfold impl_DataBytes.f at h
  by_cases c : 1 ≤ kind ∧ kind ≤ 16
  · exact c
  · rw [if_neg (by omega), if_neg (by omega), if_neg (by omega), if_neg (by omega), if_neg (by omega)] at h
    cases (Prod.mk.inj (Option.some.inj h)).2
/-- A good record: its parts. -/
theorem good_parts (a : ByteArray) (b c : Int) (d : ByteArray) (ha : a.size ≤ 1048576) (hd : d.size ≤ 1048576) (h : Ev (fun k => impl_GoodRecord.f k a b c d) true) : a.size ≤ 60 ∧ goodL a.data.toList = true ∧ (1 ≤ b ∧ b ≤ 16) ∧ (0 ≤ c ∧ c ≤ 100000) ∧ d.size ≤ 100 := by
  obtain ⟨r, q, r1, r2, q1, ⟨K, q2⟩, hr, hs⟩ := goodrec_both a b c d ha hd
  have e := Ev.unique h r2
  subst e
  have hr := hr.symm
  rw [Bool.and_eq_true, Bool.and_eq_true, decide_eq_true_eq] at hr
  have hK : impl_DataBytes.f K b d = some (if q.2 = true then (q.1, true) else badD) := q2 K (Nat.le_refl _)
  rw [if_pos hr.1] at hK
  have := good_size hr.2.1
  rw [← size_len] at this
  exact ⟨this, hr.2.1, data_kind hK, hr.2.2, hs hr.1⟩
theorem text_both (a : ByteArray) (b c : Int) (d : ByteArray) (ha : a.size ≤ 1048576) (hd : d.size ≤ 1048576) : ∃ g, Ev (fun k => spec_GoodRecord.f k a b c d) g ∧ Ev (fun k => impl_GoodRecord.f k a b c d) g ∧ (g = true → Ev (fun k => spec_l3Text.f k a b c d) (rtext a b c d) ∧ impl_recordText.f a b c d = some (rtext a b c d)) := by
  obtain ⟨r, q, r1, r2, _⟩ := goodrec_both a b c d ha hd
  refine ⟨r, r1, r2, fun hg => ?_⟩
  subst hg
  obtain ⟨_, _, hb, hc, _⟩ := good_parts a b c d ha hd r2
  exact ⟨rtext_spec a b c d ha hd (by omega) (by omega), rtext_impl a b c d ha hd (by omega) (by omega)⟩
end Go.Proofs.YtecmicedacppbaaDoor.Pure

-- PureFnExactRecordText
/- 'laws.FnExactRecordText' returns true: the reference and the program return the same. Conditions: the texts' sizes. -/
namespace Go.Proofs.YtecmicedacppbaaDoor.Pure
open Go.RowKit Go.Proofs.YtecmicedacppbaaDoor.P Go.Proofs.YtecmicedacppbaaDoorW.PrintWords Go.Proofs.YtecmicedacppbaaDoorW.PrintLast
set_option linter.unusedVariables false
set_option linter.unusedSimpArgs false
theorem rec_both (a : ByteArray) (b c : Int) (d : ByteArray) (ha : a.size ≤ 1048576) (hd : d.size ≤ 1048576) : ∃ r, Ev (fun k => spec_RecordText.f k a b c d) r ∧ Ev (fun k => impl_RecordText.f k a b c d) r := by
  obtain ⟨g, g1, g2, g3⟩ := text_both a b c d ha hd
  cases g with
  | false => exact ⟨((⟨#[]⟩ : ByteArray), false), Ev.congr (fun k => rfl) (Ev.bind g1 (Ev.now _)), Ev.congr (fun k => rfl) (Ev.bind g2 (Ev.now _))⟩
  | true =>
    obtain ⟨t1, t2⟩ := g3 rfl
    refine ⟨(rtext a b c d, true), Ev.congr (fun k => rfl) (Ev.bind g1 (Ev.bind t1 (Ev.now _))), Ev.congr (fun k => rfl) (Ev.bind g2 ?_)⟩
    simp only [if_true, t2, Option.bind_some]
    exact Ev.now _
theorem FnExactRecordText : ∀ (a0 : ByteArray) (b0 c0 : Int) (d0 : ByteArray), a0.size ≤ maxLen → d0.size ≤ maxLen → ∃ k, laws_FnExactRecordText.f k a0 b0 c0 d0 = some true := by
  intro a b c d ha hd
  suffices h : Ev (fun k => laws_FnExactRecordText.f k a b c d) true from h.rounds
  obtain ⟨t, e0, h0⟩ := szRec a b c d ha hd
  refine Ev.congr (f := fun k => if t < 0 then some true else ((spec_RecordText.f k a b c d).bind fun w => ((impl_RecordText.f k a b c d).bind fun g => (if g.1.toList = w.1.toList then (if (g.2 != w.2) = true then (some false) else (some true)) else (some false))))) (fun k => ?_) ?_
  · unfold laws_FnExactRecordText.f laws_toRecord.f
    rw [e0]
    rfl
  · by_cases ht : t < 0
    · simp only [if_pos ht]; exact Ev.now _
    · obtain ⟨h1, h2⟩ := h0 (by omega)
      obtain ⟨r, r1, r2⟩ := rec_both a b c d h1 h2
      simp only [if_neg ht]
      refine Ev.bind r1 (Ev.bind r2 ?_)
      simp
      exact Ev.now _
end Go.Proofs.YtecmicedacppbaaDoor.Pure
