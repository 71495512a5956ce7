/- FnPointers: part 8 of 27 of my texts for this claim, joined; the theorem stands in the last. Conditions: none beyond the statement's. -/
import Derived.Test.YtomcfhbmdoomlaaDoorMFnPointersx2
import Derived.Test.YtomcfhbmdoomlaaDoorMFnPointersx6
import Derived.Test.YtomcfhbmdoomlaaDoorMFnPointersx4
import Derived.Shelf.Strings.OnBuilder
import Derived.Test.YtomcfhbmdoomlaaDoorProg
import Derived.Test.YtomcfhbmdoomlaaDoorMFnPointersx5
-- F11
-- By my own call of the kit's print (wip/tools/pp.py).
namespace Go.Proofs.YtomcfhbmdoomlaaDoor.P
open Go.RowKit Go.Proofs.YtomcfhbmdoomlaaDoorW.PrintWords Go.Proofs.YtomcfhbmdoomlaaDoorW.PrintLast Go.Proofs.YtomcfhbmdoomlaaDoorW.PrintMore
attribute [local go_sem] max2_int min2_int max_two min_two max_three min_three max_four min_four
set_option linter.unusedVariables false
set_option linter.unusedSimpArgs false

/-! ### spec_TakeName: function 11 -/
def spec_TakeName.j0 : Nat → ByteArray → Int → Bool → Option (ByteArray × Int × Bool)
  | 0, _, _, _ => none
  | k + 1, x0, x1, x21 => if x21 = true then (some ((⟨#[]⟩ : ByteArray), 0, false)) else ((spec_l2Take.f k x0 x1).bind fun bt131 => (if bt131.2.2.2 = true then (some (bt131.1, bt131.2.1, true)) else (some ((⟨#[]⟩ : ByteArray), 0, false))))
def spec_TakeName.f (k : Nat) (a0 : ByteArray) (a1 : Int) : Option (ByteArray × Int × Bool) := if (a0.size : Int) > 600 then (spec_TakeName.j0 k a0 a1 true) else ((spec_l1In.f a1 0 (wrap64 ((a0.size : Int) - 1))).bind fun t130 => (spec_TakeName.j0 k a0 a1 (!t130)))
theorem spec_TakeName.mono_l : ∀ k, (∀ y0 y1 y2, LeO (spec_TakeName.j0 k y0 y1 y2) (spec_TakeName.j0 (k + 1) y0 y1 y2))
  | 0 => fun _ _ _ r h => by simp [spec_TakeName.j0] at h
  | k + 1 => by
    have ih0 := spec_TakeName.mono_l k
    · intro y0 y1 y2
      unfold spec_TakeName.j0
      repeat' first
      | (with_reducible exact ih0 _ _ _)
      | (with_reducible exact spec_l2Take.mono _ _ _)
      | (with_reducible exact LeO.refl _)
      | (with_reducible exact LeO.none _)
      | (with_reducible refine LeO.ite ?_ ?_)
      | (with_reducible refine LeO.bind ?_ (fun _ => ?_))
      | exact ih0 _ _ _
      | exact spec_l2Take.mono _ _ _
      | exact LeO.none _
      | refine LeO.ite ?_ ?_
      | refine LeO.bind ?_ (fun _ => ?_)
theorem spec_TakeName.mono : ∀ a0 a1 k, LeO (spec_TakeName.f k a0 a1) (spec_TakeName.f (k + 1) a0 a1) := by
  intro a0 a1 k
  have ih0 := spec_TakeName.mono_l k
  unfold spec_TakeName.f
  repeat' first
      | (with_reducible exact ih0 _ _ _)
      | (with_reducible exact spec_l2Take.mono _ _ _)
      | (with_reducible exact LeO.refl _)
      | (with_reducible exact LeO.none _)
      | (with_reducible refine LeO.ite ?_ ?_)
      | (with_reducible refine LeO.bind ?_ (fun _ => ?_))
      | exact ih0 _ _ _
      | exact spec_l2Take.mono _ _ _
      | exact LeO.none _
      | refine LeO.ite ?_ ?_
      | refine LeO.bind ?_ (fun _ => ?_)
set_option maxHeartbeats 8000000 in
set_option maxRecDepth 100000 in
theorem spec_TakeName.calls (k : Nat) (a0 : ByteArray) (a1 : Int) (r1 : ByteArray) (r2 : Int) (r3 : Bool) (w : World) (h : spec_TakeName.f k a0 a1 = some (r1, r2, r3)) :
    Calls Tryd.prog 11 #[.string a0, .int .i64 a1] w fun e w' => e = .returned (.tuple #[.string r1, .int .i64 r2, .bool r3]) ∧ Below w.heap.size w w' := by
  have HB := Aside0.mk (Below.refl w.heap.size w)
  have H : (if (a0.size : Int) > 600 then (spec_TakeName.j0 k a0 a1 true) else ((spec_l1In.f a1 0 (wrap64 ((a0.size : Int) - 1))).bind fun t130 => (spec_TakeName.j0 k a0 a1 (!t130)))) = some (r1, r2, r3) := h
  clear h
  have HC3 := Aside0.mk H
  clear H
  go_enter Tryd.func11, Tryd.ntmps11
  go_upto_region 1 with (fail)
  go_cut [21] (fun v21 wc => ∃ (kq : Nat) (x21_2 : Bool), v21 = .bool x21_2 ∧ Aside0 (spec_TakeName.j0 kq a0 a1 x21_2 = some (r1, r2, r3)) ∧ Aside0 (kq ≤ k) ∧ Aside0 (Below w.heap.size w wc))
  case first =>
    have H := HC3.out
    clear HC3
    by_cases c4 : (a0.size : Int) > 600
    · rw [if_pos c4] at H
      have c4b0 : decide (600 < (a0.size : Int)) = true := decide_eq_true c4
      have c4b1 : decide (600 < a0.size) = true := decide_eq_true (by omega)
      clear c4
      (first | rw [c4b0] | (simp only [i64_w, i32_w]; rw [c4b0]) | skip)
      have H' := Aside0.mk H
      clear H
      go_wp2
      go_meet
      case rel => exact ⟨_, (true), (by first | rfl | (simp; done) | (simp [*]; done)), H', ⟨by first | omega | exact Nat.le_refl _⟩, ⟨by repeat (first | (with_reducible first | exact HB.out | apply below_alloc | apply pw_below_drewN | apply below_drew1) | exact HB.out)⟩⟩
    · rw [if_neg c4] at H
      have c4b0 : decide (600 < (a0.size : Int)) = false := decide_eq_false c4
      have c4b1 : decide (600 < a0.size) = false := decide_eq_false (by omega)
      clear c4
      (first | rw [c4b0] | (simp only [i64_w, i32_w]; rw [c4b0]) | skip)
      replace H := Option.bind_eq_some_iff.mp H
      obtain ⟨t130, A50, H⟩ := H
      replace H : (spec_TakeName.j0 k a0 a1 (!t130)) = some (r1, r2, r3) := H
      have A5 := Aside0.mk A50
      clear A50
      have H' := Aside0.mk H
      clear H
      go_wp2_with (first | (go_at_call 39; (with_reducible refine (spec_l1In.calls a1 0 (wrap64 ((a0.size : Int) - 1)) t130 _ A5.out).mono ?_); rintro e w' ⟨rfl, ⟨nd, rfl⟩⟩))
      go_meet
      case rel => exact ⟨_, (!t130), (by first | rfl | (simp; done) | (simp [*]; done)), H', ⟨by first | omega | exact Nat.le_refl _⟩, ⟨by repeat (first | (with_reducible first | exact HB.out | apply below_alloc | apply pw_below_drewN | apply below_drew1) | exact HB.out)⟩⟩
  case rest =>
    clear HC3
    try clear c1
    try clear p2
    try clear c4
    try clear c4b0
    try clear c4b1
    obtain ⟨kq, x21_2, rfl, HA, HJ2, HB⟩ := hcut
    cases kq with
    | zero => exact absurd HA.out (by simp [spec_TakeName.j0])
    | succ kj2 =>
      have H := HA.out
      clear HA
      simp only [spec_TakeName.j0] at H
      by_cases c6 : x21_2 = true
      · subst c6
        have H1 : (some ((⟨#[]⟩ : ByteArray), 0, false)) = some (r1, r2, r3) := by rw [if_pos rfl] at H; exact H
        clear H
        have H := H1
        clear H1
        simp only [Option.some.injEq, Prod.mk.injEq] at H
        obtain ⟨rfl, rfl, rfl⟩ := H
        go_wp2
        go_ret3
        exact ⟨by first | rfl | (simp [errW_none, errW_some] <;> rfl) | (simp [*, errW_none, errW_some] <;> rfl), by repeat (first | (with_reducible first | exact HB.out | apply below_alloc | apply pw_below_drewN | apply below_drew1) | exact HB.out)⟩
      · replace c6 := Bool.eq_false_iff.mpr c6
        subst c6
        have H1 : ((spec_l2Take.f kj2 a0 a1).bind fun bt131 => (if bt131.2.2.2 = true then (some (bt131.1, bt131.2.1, true)) else (some ((⟨#[]⟩ : ByteArray), 0, false)))) = some (r1, r2, r3) := by rw [if_neg (show ¬ (false = true) by decide)] at H; exact H
        clear H
        have H := H1
        clear H1
        replace H := Option.bind_eq_some_iff.mp H
        obtain ⟨⟨t131, t132, t133, t134⟩, A70, H⟩ := H
        replace H : (if t134 = true then (some (t131, t132, true)) else (some ((⟨#[]⟩ : ByteArray), 0, false))) = some (r1, r2, r3) := H
        have A7 := Aside0.mk A70
        clear A70
        by_cases c8 : t134 = true
        · subst c8
          have H1 : (some (t131, t132, true)) = some (r1, r2, r3) := by rw [if_pos rfl] at H; exact H
          clear H
          have H := H1
          clear H1
          simp only [Option.some.injEq, Prod.mk.injEq] at H
          obtain ⟨rfl, rfl, rfl⟩ := H
          go_wp2_with (first | ((with_reducible refine gate_callee (f := 40) rfl ?_); refine goesL_ (some 25) rfl rfl Tryd.func40 (by kernel_rfl) rfl #[.string a0, .int .i64 a1] rfl (by (try simp only [List.map_toArray, List.map_cons, List.map_nil]); first | done | rfl | (simp only [List.length_drop, List.length_take]; rfl)) ?_; (with_reducible refine (spec_l2Take.calls kj2 a0 a1 t131 t132 t133 true _ A7.out).mono ?_); rintro e w9 ⟨v135, rfl, ho0, hb⟩; refine ⟨_, rfl, ?_⟩; have n0_ := Aside0.mk (Kd.R_lower ho0 (below_size (by repeat (first | (with_reducible first | exact HB.out | apply below_alloc | apply pw_below_drewN | apply below_drew1) | exact HB.out)))); have n1_ := Aside0.mk (below_step (by repeat (first | (with_reducible first | exact HB.out | apply below_alloc | apply pw_below_drewN | apply below_drew1) | exact HB.out)) hb); clear HB; have HO136 := n0_; have HB := n1_; clear n0_ n1_; (try clear hb); (try clear hb2); (try clear hk); (try clear hi); (try clear ho0)))
          go_ret3
          exact ⟨by first | rfl | (simp [errW_none, errW_some] <;> rfl) | (simp [*, errW_none, errW_some] <;> rfl), by repeat (first | (with_reducible first | exact HB.out | apply below_alloc | apply pw_below_drewN | apply below_drew1) | exact HB.out)⟩
        · replace c8 := Bool.eq_false_iff.mpr c8
          subst c8
          have H1 : (some ((⟨#[]⟩ : ByteArray), 0, false)) = some (r1, r2, r3) := by rw [if_neg (show ¬ (false = true) by decide)] at H; exact H
          clear H
          have H := H1
          clear H1
          simp only [Option.some.injEq, Prod.mk.injEq] at H
          obtain ⟨rfl, rfl, rfl⟩ := H
          go_wp2_with (first | ((with_reducible refine gate_callee (f := 40) rfl ?_); refine goesL_ (some 25) rfl rfl Tryd.func40 (by kernel_rfl) rfl #[.string a0, .int .i64 a1] rfl (by (try simp only [List.map_toArray, List.map_cons, List.map_nil]); first | done | rfl | (simp only [List.length_drop, List.length_take]; rfl)) ?_; (with_reducible refine (spec_l2Take.calls kj2 a0 a1 t131 t132 t133 false _ A7.out).mono ?_); rintro e w10 ⟨v135, rfl, ho0, hb⟩; refine ⟨_, rfl, ?_⟩; have n0_ := Aside0.mk (Kd.R_lower ho0 (below_size (by repeat (first | (with_reducible first | exact HB.out | apply below_alloc | apply pw_below_drewN | apply below_drew1) | exact HB.out)))); have n1_ := Aside0.mk (below_step (by repeat (first | (with_reducible first | exact HB.out | apply below_alloc | apply pw_below_drewN | apply below_drew1) | exact HB.out)) hb); clear HB; have HO136 := n0_; have HB := n1_; clear n0_ n1_; (try clear hb); (try clear hb2); (try clear hk); (try clear hi); (try clear ho0)))
          go_ret3
          exact ⟨by first | rfl | (simp [errW_none, errW_some] <;> rfl) | (simp [*, errW_none, errW_some] <;> rfl), by repeat (first | (with_reducible first | exact HB.out | apply below_alloc | apply pw_below_drewN | apply below_drew1) | exact HB.out)⟩

end Go.Proofs.YtomcfhbmdoomlaaDoor.P

-- F80
-- By my own call of the kit's print (wip/tools/pp.py).
namespace Go.Proofs.YtomcfhbmdoomlaaDoor.P
open Go.RowKit Go.Proofs.YtomcfhbmdoomlaaDoorW.PrintWords Go.Proofs.YtomcfhbmdoomlaaDoorW.PrintLast Go.Proofs.YtomcfhbmdoomlaaDoorW.PrintMore
attribute [local go_sem] max2_int min2_int max_two min_two max_three min_three max_four min_four
set_option linter.unusedVariables false
set_option linter.unusedSimpArgs false

/-! ### impl_NameOf_1: function 80 -/
def impl_NameOf_1.f (a0 : ByteArray) : Option (Bool) := (impl_isLabel.f a0).bind fun t567 => (some (!t567))
set_option maxHeartbeats 8000000 in
set_option maxRecDepth 100000 in
theorem impl_NameOf_1.calls (a0 : ByteArray) (r : Bool) (w : World) (h : impl_NameOf_1.f a0 = some r) :
    Calls Tryd.prog 80 #[.string a0] w fun e w' => e = .returned (.bool r) ∧ Below w.heap.size w w' := by
  have HB := Aside0.mk (Below.refl w.heap.size w)
  have H : ((impl_isLabel.f a0).bind fun t567 => (some (!t567))) = some r := h
  clear h
  replace H := Option.bind_eq_some_iff.mp H
  obtain ⟨t567, A20, H⟩ := H
  replace H : (some (!t567)) = some r := H
  have A2 := Aside0.mk A20
  clear A20
  obtain rfl := Option.some.inj H
  go_enter Tryd.func80, Tryd.ntmps80
  go_wp2_with (first | ((with_reducible refine gate_callee (f := 60) rfl ?_); refine goesL_ (some 4) rfl rfl Tryd.func60 (by kernel_rfl) rfl #[.string a0] rfl (by (try simp only [List.map_toArray, List.map_cons, List.map_nil]); first | done | rfl | (simp only [List.length_drop, List.length_take]; rfl)) ?_; (with_reducible refine (impl_isLabel.calls a0 t567 _ A2.out).mono ?_); rintro e w3 ⟨rfl, hb⟩; refine ⟨_, rfl, ?_⟩; have n0_ := Aside0.mk (below_step (by repeat (first | (with_reducible first | exact HB.out | apply below_alloc | apply pw_below_drewN | apply below_drew1) | exact HB.out)) hb); clear HB; have HB := n0_; clear n0_; (try clear hb); (try clear hb2); (try clear hk); (try clear hi)))
  go_ret
  exact ⟨by first | rfl | (simp [errW_none, errW_some] <;> rfl) | (simp [*, errW_none, errW_some] <;> rfl), by repeat (first | (with_reducible first | exact HB.out | apply below_alloc | apply pw_below_drewN | apply below_drew1) | exact HB.out)⟩

end Go.Proofs.YtomcfhbmdoomlaaDoor.P

-- ShelfJ
/- The shelf's layings at this program: each the kernel's comparison of a library function's body. Conditions: none. -/
namespace Go.Proofs
open Go.Shelf
def Tryd.lays156_ren : Go.Shelf.Ren := ⟨fun | 156 => 81 | 165 => 93 | 166 => 94 | 169 => 95 | 240 => 104 | 241 => 105 | 276 => 115 | 277 => 116 | n => n, fun | 31 => 31 | 9 => 9 | 3 => 3 | 4 => 4 | 0 => 0 | 20 => 20 | 72 => 94 | 76 => 98 | 70 => 92 | 37 => 44 | 75 => 97 | 127 => 106 | 164 => 110 | 5 => 5 | 80 => 67 | n => n, fun | n => n⟩
theorem Tryd.lays156 : Go.Proofs.Lays.n156 Tryd.prog Tryd.lays156_ren := {
  mixed := by kernel_rfl
  f156 := Tryd.func81.trans (congrArg some (by kernel_rfl))
  f165 := Tryd.func93.trans (congrArg some (by kernel_rfl))
  f166 := Tryd.func94.trans (congrArg some (by kernel_rfl))
  f169 := Tryd.func95.trans (congrArg some (by kernel_rfl))
  f240 := Tryd.func104.trans (congrArg some (by kernel_rfl))
  f241 := Tryd.func105.trans (congrArg some (by kernel_rfl))
  f276 := Tryd.func115.trans (congrArg some (by kernel_rfl))
  f277 := Tryd.func116.trans (congrArg some (by kernel_rfl))
  t0 := Tryd.underlying0
  a0 := Tryd.isAgg0
  z0 := Tryd.sizeOf0
  v0 := Tryd.zeroValue0
  t3 := Tryd.underlying3
  a3 := Tryd.isAgg3
  z3 := Tryd.sizeOf3
  v3 := Tryd.zeroValue3
  t4 := Tryd.underlying4
  a4 := Tryd.isAgg4
  z4 := Tryd.sizeOf4
  v4 := Tryd.zeroValue4
  t9 := Tryd.underlying9
  a9 := Tryd.isAgg9
  z9 := Tryd.sizeOf9
  v9 := Tryd.zeroValue9
  t20 := Tryd.underlying20
  a20 := Tryd.isAgg20
  z20 := Tryd.sizeOf20
  v20 := Tryd.zeroValue20
  t31 := Tryd.underlying31
  a31 := Tryd.isAgg31
  z31 := Tryd.sizeOf31
  v31 := Tryd.zeroValue31
  t37 := Tryd.underlying44
  a37 := Tryd.isAgg44
  z37 := Tryd.sizeOf44
  v37 := Tryd.zeroValue44
  t70 := Tryd.underlying92
  a70 := Tryd.isAgg92
  z70 := Tryd.sizeOf92
  v70 := Tryd.zeroValue92
  t72 := Tryd.underlying94
  a72 := Tryd.isAgg94
  z72 := Tryd.sizeOf94
  v72 := Tryd.zeroValue94
  t75 := Tryd.underlying97
  a75 := Tryd.isAgg97
  z75 := Tryd.sizeOf97
  v75 := Tryd.zeroValue97
  t76 := Tryd.underlying98
  a76 := Tryd.isAgg98
  z76 := Tryd.sizeOf98
  v76 := Tryd.zeroValue98
  t127 := Tryd.underlying106
  a127 := Tryd.isAgg106
  z127 := Tryd.sizeOf106
  v127 := Tryd.zeroValue106
  t164 := Tryd.underlying110
  a164 := Tryd.isAgg110
  z164 := Tryd.sizeOf110
  v164 := Tryd.zeroValue110 }
end Go.Proofs

-- HName
/- impl.NameOf: its walk over strings.Join, slices.ContainsFunc and impl.GoodName. Conditions: the row of labels lies at a plain place. -/
namespace Go.Proofs.YtomcfhbmdoomlaaDoor.P
open Go.RowKit Go.Proofs.YtomcfhbmdoomlaaDoorW.PrintWords Go.Proofs.YtomcfhbmdoomlaaDoorW.PrintLast Go.Proofs.YtomcfhbmdoomlaaDoorW.PrintMore
set_option linter.unusedVariables false
set_option linter.unusedSimpArgs false

theorem builderX : Builder.Extra Tryd.prog Tryd.lays156_ren where
  sizeBuilder := by kernel_rfl
  liesBuilder := by kernel_rfl
  t5 := Tryd.underlying5
  a5 := Tryd.isAgg5
  z5 := Tryd.sizeOf5
  v5 := Tryd.zeroValue5
  infoByte := by kernel_rfl
  cellsByte := by kernel_rfl
  sizeByte := by kernel_rfl
  neB5 := by decide

/-- The text of labels with dots between. -/
def joinL (l : List ByteArray) : List UInt8 := Lib.join (l.map (·.data.toList)) [46]
theorem spot_R {T : Nat} {w : World} {b : Nat} {ok : Nat → Prop} {A : Option Addr} {n c : Nat} {xs : List ByteArray} (h : Kd.R Kd.string T w b ok (.slice A n c) xs) : ∀ ad, A = some ad → ad.spot = none := by
  intro ad e
  obtain ⟨cs, hown, _⟩ := h.2
  rcases hown.2 with ⟨h1, _⟩ | ⟨g, cap, cur, h1, _⟩
  · injection h1 with h2
    rw [e] at h2
    cases h2
  · injection h1 with h2
    rw [e] at h2
    injection h2 with h2
    rw [h2]

theorem join_calls (A : Option Addr) (c : Nat) (xs : List ByteArray) (w : World) (hr : Kd.C Kd.string w A xs.length xs) (hc : xs.length ≤ c) (hs : ∀ ad, A = some ad → ad.spot = none)
    (hl : (joinL xs).length ≤ 140737488355328) (hn : xs.length ≤ 8) :
    Calls Tryd.prog 81 #[.slice A xs.length c, .string (⟨#[46]⟩ : ByteArray)] w fun e w' => e = .returned (.string (mkB (joinL xs))) ∧ Below w.heap.size w w' := by
  cases xs with
  | nil => exact (Any.strings_Join_none Tryd.lays156 builderX A c _ w).mono fun e w' ⟨he, hw⟩ => ⟨he, hw ▸ Below.refl _ _⟩
  | cons x r =>
    obtain ⟨ad, rfl, hx⟩ := Kd.at_string hr 0 (by omega) (by simp)
    have hsp := hs ad rfl
    obtain ⟨bk, o, sp⟩ := ad
    simp only at hsp
    subst hsp
    refine Any.strings_Join Tryd.lays156 builderX bk o c (x :: r) (⟨#[46]⟩ : ByteArray) w ?_ (World.block_lt_of_cell? _ _ hx) (by omega) hc hl
    intro j y hj
    have hjl : j < (x :: r).length := (List.getElem?_eq_some_iff.1 hj).1
    obtain ⟨ad, e0, hx⟩ := Kd.at_string hr (j : Int) (by omega) (by omega)
    cases e0
    rw [Int.toNat_natCast] at hx
    have hy : rdOf ByteArray.empty (x :: r) (j : Int) = y := by
      unfold rdOf
      rw [Int.toNat_natCast, List.getD_eq_getElem?_getD, hj]
      rfl
    rw [hy] at hx
    by_cases hj0 : j = 0
    · subst hj0
      simpa [Addr.add] using hx
    · simpa [Addr.add, hj0] using hx

theorem joinL_len (l : List ByteArray) (h : ∀ x ∈ l, x.size ≤ 20) : (joinL l).length ≤ l.length * 21 := by
  unfold joinL
  cases l with
  | nil => simp [Lib.join_nil]
  | cons x r =>
    rw [List.map_cons, Lib.join_cons, List.length_append]
    have h1 := h x List.mem_cons_self
    have h2 : ∀ m : List ByteArray, (∀ y ∈ m, y.size ≤ 20) → (Lib.joinTail [46] (m.map (·.data.toList))).length ≤ m.length * 21 := by
      intro m
      induction m with
      | nil => intro _; simp [Lib.joinTail]
      | cons y m ih =>
        intro hy
        have := hy y List.mem_cons_self
        have := ih fun z hz => hy z (List.mem_cons_of_mem _ hz)
        simp [Lib.joinTail] at this ⊢
        rw [size_len] at *
        simp at *
        omega
    have h3 := h2 r fun y hy => h y (List.mem_cons_of_mem _ hy)
    rw [size_len] at h1
    simp only [List.length_cons]
    omega
theorem label_size {l : List UInt8} (h : isLabelL l = true) : l.length ≤ 20 := by
  unfold isLabelL at h
  simp only [Bool.or_eq_true, Bool.and_eq_true, decide_eq_true_eq, beq_iff_eq] at h
  rcases h with rfl | h
  · simp
  · exact h.1.2

def nameR (l : List ByteArray) : ByteArray × Bool :=
  if decide (l.length ≤ 8) && l.all (fun x => isLabelL x.data.toList) then (if goodL (joinL l) = true then (mkB (joinL l), true) else ((⟨#[]⟩ : ByteArray), false)) else ((⟨#[]⟩ : ByteArray), false)
def impl_NameOf.f (l : List ByteArray) : Option (ByteArray × Bool) := some (nameR l)

theorem name_closure (x : ByteArray) (W : World) : Calls Tryd.prog 80 #[.string x] W fun e W' => e = .returned (.bool (!isLabelL x.data.toList)) ∧ Below W.heap.size W W' :=
  impl_NameOf_1.calls x _ W (by unfold impl_NameOf_1.f; rw [isLabel_eq]; rfl)

set_option maxHeartbeats 4000000 in
theorem impl_NameOf.calls (A0 : Option Addr) (c0 : Nat) (l0 : List ByteArray) (r1 : ByteArray) (r2 : Bool) (w : World) (hr0 : Kd.C Kd.string w A0 l0.length l0) (hc0 : l0.length ≤ c0) (h : impl_NameOf.f l0 = some (r1, r2))
    (hs : ∀ ad, A0 = some ad → ad.spot = none := by first | exact spot_R (Aside0.out (by assumption)) | exact spot_R (by assumption)) :
    Calls Tryd.prog 65 #[.slice A0 l0.length c0] w fun e w' => e = .returned (.tuple #[.string r1, .bool r2]) ∧ Below w.heap.size w w' := by
  have HR : Aside0 (nameR l0 = (r1, r2)) := ⟨Option.some.inj h⟩
  clear h
  unfold nameR at HR
  by_cases h8 : l0.length ≤ 8
  · have eg : ∀ args w, (callFunc 80 args).run Tryd.prog w = .ok (.enter 80 args) w := enters_of Tryd.func80 (by kernel_rfl) rfl
    have cc := contains_str A0 c0 l0 80 #[] (fun x => !isLabelL x.data.toList) w hr0 eg (fun x _ W' _ => name_closure x W')
    have hany : l0.any (fun x => !isLabelL x.data.toList) = !l0.all (fun x => isLabelL x.data.toList) := by rw [List.not_all_eq_any_not]
    rw [hany] at cc
    rw [decide_eq_true h8, Bool.true_and] at HR
    have h8a : decide (8 < l0.length) = false := decide_eq_false (by omega)
    have h8b : decide ((8 : Int) < (l0.length : Int)) = false := decide_eq_false (by omega)
    have hsz := Aside0.mk (fun (ha : l0.all (fun x => isLabelL x.data.toList) = true) => joinL_len l0 (fun x hx => by
      rw [size_len]; exact label_size (List.all_eq_true.1 ha x hx)))
    cases ha : l0.all (fun x => isLabelL x.data.toList) with
    | false =>
      rw [ha] at cc
      rw [ha, if_neg (by simp)] at HR
      obtain ⟨rfl, rfl⟩ := Prod.mk.inj HR.out
      clear HR hsz ha hany
      go_enter Tryd.func65, Tryd.ntmps65
      go_wp2_with (first | (go_at_call 58; refine cc.mono ?_; rintro e w1 ⟨rfl, hb⟩))
      go_ret2
      exact ⟨rfl, hb⟩
    | true =>
      rw [ha] at cc
      rw [ha, if_pos rfl] at HR
      have hlen := hsz.out ha
      have hjs : (joinL l0).length < 4294967281 := by omega
      clear hsz ha hany
      have hj := Aside0.mk (fun W (hb : Below w.heap.size w W) => join_calls A0 c0 l0 W (Kd.C_below hr0 hb) hc0 hs (by omega) h8)
      have gc := fun W => impl_GoodName.calls (mkB (joinL l0)) _ W rfl
      rw [mkB_data] at gc
      clear hlen
      cases hg : goodL (joinL l0) with
      | true =>
        rw [hg] at gc
        rw [hg, if_pos rfl] at HR
        obtain ⟨rfl, rfl⟩ := Prod.mk.inj HR.out
        clear HR hg
        go_enter Tryd.func65, Tryd.ntmps65
        go_wp2_with (first | (go_at_call 58; refine cc.mono ?_; rintro e w1 ⟨rfl, hb⟩) | (go_at_call 81; refine (hj.out _ hb).mono ?_; rintro e w2 ⟨rfl, hb2⟩) | (go_at_call 35; refine (gc _).mono ?_; rintro e w3 ⟨rfl, hb3⟩))
        go_ret2
        exact ⟨rfl, below_then (below_then hb hb.size hb2) (below_then hb hb.size hb2).size hb3⟩
      | false =>
        rw [hg] at gc
        rw [hg, if_neg (by simp)] at HR
        obtain ⟨rfl, rfl⟩ := Prod.mk.inj HR.out
        clear HR hg
        go_enter Tryd.func65, Tryd.ntmps65
        go_wp2_with (first | (go_at_call 58; refine cc.mono ?_; rintro e w1 ⟨rfl, hb⟩) | (go_at_call 81; refine (hj.out _ hb).mono ?_; rintro e w2 ⟨rfl, hb2⟩) | (go_at_call 35; refine (gc _).mono ?_; rintro e w3 ⟨rfl, hb3⟩))
        go_ret2
        exact ⟨rfl, below_then (below_then hb hb.size hb2) (below_then hb hb.size hb2).size hb3⟩
  · have h8a : decide (8 < l0.length) = true := decide_eq_true (by omega)
    have h8b : decide ((8 : Int) < (l0.length : Int)) = true := decide_eq_true (by omega)
    rw [decide_eq_false h8, Bool.false_and, if_neg (by simp)] at HR
    obtain ⟨rfl, rfl⟩ := Prod.mk.inj HR.out
    clear HR h8
    go_enter Tryd.func65, Tryd.ntmps65
    go_wp2
    go_ret2
    exact ⟨rfl, Below.refl _ _⟩
end Go.Proofs.YtomcfhbmdoomlaaDoor.P
