/- FnExactCutMessage: part 14 of 14 of my texts for this claim, joined; the theorem stands in the last. Conditions: none beyond the statement's. -/
import Derived.Test.YtiegkjimpclmaaaGreatDoorMFnExactCutMessagex12
import Derived.Test.YtiegkjimpclmaaaGreatDoorCards
import Derived.Test.YtiegkjimpclmaaaGreatDoorTie
import Derived.Deep.DeepHandedRow
import Derived.Stop.LaidErr
open Go.RowKit Go.Proofs.YtiegkjimpclmaaaGreatDoorW.PrintWords Go.Proofs.YtiegkjimpclmaaaGreatDoorW.PrintLast Go.Proofs.YtiegkjimpclmaaaGreatDoorW.PrintMore
set_option linter.unusedVariables false
set_option linter.unusedSimpArgs false
set_option maxHeartbeats 8000000
set_option maxRecDepth 100000
namespace Go.Proofs.YtiegkjimpclmaaaGreatDoor.P
def laws_FnExactCutMessage.f (k : Nat) (a0 : Int) (a1 a2 : Bool) (a3 : Int) (a4 : ByteArray) (a5 : Int) (l6 l7 : List LRec) (z : Int) : Prop := ∃ t, laws_szMessage.f k a0 a1 a2 a3 a4 a5 l6 l7 1048576 = some t ∧ (t < 0 ∨ (0 ≤ t ∧ ∃ x1 x2 x3 x4 x5 x6 x7 x8 r1 r2 r3 r4 r5 r6 r7 r8 b k1 y7 y8 m s7 s8, laws_toMessage.f k a0 a1 a2 a3 a4 a5 l6 l7 = some (x1, x2, x3, x4, x5, x6, x7, x8) ∧
  spec_CutMessage.f k x1 x2 x3 x4 x5 x6 x7 x8 z = some (r1, r2, r3, r4, r5, r6, r7, r8, b) ∧ impl_CutMessage.f k x1 x2 x3 x4 x5 x6 x7 x8 z = some (r1, r2, r3, r4, r5, r6, r7, r8, b) ∧ laws_eqMessage.f k r1 r2 r3 r4 r5 r6 r7 r8 r1 r2 r3 r4 r5 r6 r7 r8 = some true ∧
  laws_eqMessage.f k x1 x2 x3 x4 x5 x6 x7 x8 x1 x2 x3 x4 x5 x6 x7 x8 = some true ∧ laws_markMessage.f k x1 x2 x3 x4 x5 x6 x7 x8 1 = some (k1, y7, y8) ∧ 0 ≤ k1 ∧ laws_markMessage.f k r1 r2 r3 r4 r5 r6 r7 r8 1 = some (m, s7, s8) ∧ 0 ≤ m ∧ laws_heldMessage.f k r1 r2 r3 r4 r5 r6 s7 s8 1 = some m))
theorem laws_FnExactCutMessage.calls (k : Nat) (a0 : Int) (a1 a2 : Bool) (a3 : Int) (a4 : ByteArray) (a5 : Int) (A6 : Option Addr) (c6 : Nat) (l6 : List LRec) (A7 : Option Addr) (c7 : Nat) (l7 : List LRec) (z : Int) (r_ : Bool) (w : World) (hr6 : Kd.C k91 w A6 l6.length l6) (hc6 : l6.length ≤ c6) (hr7 : Kd.C k91 w A7 l7.length l7) (hc7 : l7.length ≤ c7) (h : laws_FnExactCutMessage.f k a0 a1 a2 a3 a4 a5 l6 l7 z) (hv_ : Vars w := by first | assumption) (hr_ : r_ = true := by rfl) :
    Calls Tryz.prog 7 #[.agg #[.int .i64 a0, .bool a1, .bool a2, .int .i64 a3, .string a4, .int .i64 a5, .slice A6 l6.length c6, .slice A7 l7.length c7], .int .i64 z] w fun e w' => e = .returned (.bool r_) ∧ Below w.heap.size w w' := by
  subst hr_
  obtain ⟨t, hsz, h⟩ := h
  have R6 := Aside0.mk hr6
  have C6 := Aside0.mk hc6
  have R7 := Aside0.mk hr7
  have C7 := Aside0.mk hc7
  have HZ := Aside0.mk hsz
  have HV := Aside0.mk hv_
  have HA := Aside0.mk (Al.new w)
  clear hr6 hc6 hr7 hc7 hsz hv_
  rcases h with h | ⟨h, x1, x2, x3, x4, x5, x6, x7, x8, r1, r2, r3, r4, r5, r6, r7, r8, b, k1, y7, y8, m, s7, s8, e1, e2, e3, e4, e5, e6, hk1, e7, hm, e8⟩
  · have hd : decide (t < 0) = true := decide_eq_true h
    clear h
    go_enter Tryz.func7, Tryz.ntmps7
    go_wp2_with (first
      | ((with_reducible refine gate_dst (N := 2) rfl ?_); refine boxS_ 2 #[.int .i64 a0, .bool a1, .bool a2, .int .i64 a3, .string a4, .int .i64 a5, .slice A6 l6.length c6, .slice A7 l7.length c7] 59 (fun gA hg w1 hbox hb => ?_)
         replace HA := Aside0.mk (HA.out.box hg hbox hb (by decide))
         clear hb hbox hg
         obtain ⟨_, _, _, _, _, _, _, _, _, _, _, _, _, _, _, _⟩ := bk8_ (HA.out.k _ (.head _)))
      | ((with_reducible refine gt_ 38 rfl ?_); refine gs_ 18 Tryz.func38 #[.agg #[.int .i64 a0, .bool a1, .bool a2, .int .i64 a3, .string a4, .int .i64 a5, .slice A6 l6.length c6, .slice A7 l7.length c7], .int .i64 1048576] ?_
         refine (laws_szMessage.calls k a0 a1 a2 a3 a4 a5 A6 c6 l6 A7 c7 l7 1048576 t _ (Kd.C_below R6.out HA.out.b) C6.out (Kd.C_below R7.out HA.out.b) C7.out HZ.out).mono ?_
         rintro e w2 ⟨rfl, hb⟩
         refine ⟨_, rfl, ?_⟩
         replace HA := Aside0.mk (HA.out.below hb)
         clear hb))
    go_ret
    exact ⟨rfl, HA.out.b⟩
  · have hd : decide (t < 0) = false := decide_eq_false (by omega)
    have hd1 : decide (k1 < 0) = false := decide_eq_false (by omega)
    have hd2 : decide (m < 0) = false := decide_eq_false (by omega)
    have E1 := Aside0.mk e1
    have E2 := Aside0.mk e2
    have E3 := Aside0.mk e3
    have E4 := Aside0.mk e4
    have E5 := Aside0.mk e5
    have E6 := Aside0.mk e6
    have E7 := Aside0.mk e7
    have E8 := Aside0.mk e8
    clear e1 e2 e3 e4 e5 e6 e7 e8 hk1 hm h
    cases b <;> (
      go_enter Tryz.func7, Tryz.ntmps7
      go_wp2_with (first
      | ((with_reducible refine gate_dst (N := 2) rfl ?_); refine boxS_ 2 #[.int .i64 a0, .bool a1, .bool a2, .int .i64 a3, .string a4, .int .i64 a5, .slice A6 l6.length c6, .slice A7 l7.length c7] 59 (fun gA hg w1 hbox hb => ?_)
         replace HA := Aside0.mk (HA.out.box hg hbox hb (by decide))
         clear hb hbox hg
         obtain ⟨_, _, _, _, _, _, _, _, _, _, _, _, _, _, _, _⟩ := bk8_ (HA.out.k _ (.head _)))
      | ((with_reducible refine gt_ 38 rfl ?_); refine gs_ 18 Tryz.func38 #[.agg #[.int .i64 a0, .bool a1, .bool a2, .int .i64 a3, .string a4, .int .i64 a5, .slice A6 l6.length c6, .slice A7 l7.length c7], .int .i64 1048576] ?_
         refine (laws_szMessage.calls k a0 a1 a2 a3 a4 a5 A6 c6 l6 A7 c7 l7 1048576 t _ (Kd.C_below R6.out HA.out.b) C6.out (Kd.C_below R7.out HA.out.b) C7.out HZ.out).mono ?_
         rintro e w2 ⟨rfl, hb⟩
         refine ⟨_, rfl, ?_⟩
         replace HA := Aside0.mk (HA.out.below hb)
         clear hb
         obtain ⟨_, _, _, _, _, _, _, _, _, _, _, _, _, _, _, _⟩ := bk8_ (HA.out.k _ (.head _)))
      | ((with_reducible refine gt_ 40 rfl ?_); refine gs_ 23 Tryz.func40 #[.agg #[.int .i64 a0, .bool a1, .bool a2, .int .i64 a3, .string a4, .int .i64 a5, .slice A6 l6.length c6, .slice A7 l7.length c7]] ?_
         refine (toA HA.out R6.out C6.out R7.out C7.out E1.out).mono ?_
         rintro e w3 ⟨D6, d6, D7, d7, rfl, hA⟩
         refine ⟨_, rfl, ?_⟩
         replace HA := Aside0.mk hA
         clear hA)
      | ((with_reducible refine gt_ 39 rfl ?_); refine gs_ 25 Tryz.func39 #[.agg #[.int .i64 x1, .bool x2, .bool x3, .int .i64 x4, .string x5, .int .i64 x6, .slice D6 x7.length d6, .slice D7 x8.length d7], .int .i64 z] ?_
         refine (cutS HA.out (.head _) E2.out).mono ?_
         rintro e w4 ⟨G6, g6, G7, g7, rfl, hA⟩
         refine ⟨_, rfl, ?_⟩
         replace HA := Aside0.mk hA
         clear hA)
      | ((with_reducible refine gate_dst (N := 6) rfl ?_); refine boxS_ 6 #[.int .i64 0, .bool false, .bool false, .int .i64 0, .string (⟨#[]⟩ : ByteArray), .int .i64 0, .slice none 0 0, .slice none 0 0] 62 (fun gW hg w5 hbox hb => ?_)
         have HF := Aside0.mk (HA.out.far hg)
         replace HA := Aside0.mk (HA.out.box hg hbox hb (by decide))
         clear hb hbox hg
         have n1 := HF.out _ (.head _)
         have n2 := n1.symm
         obtain ⟨_, _, _, _, _, _, _, _, _, _, _, _, _, _, _, _⟩ := bk8_ (HA.out.k _ (.head _))
         obtain ⟨_, _, _, _, _, _, _, _, _, _, _, _, _, _, _, _⟩ := bk8_ (HA.out.k _ (.tail _ (.head _))))
      | ((with_reducible refine gt_ 40 rfl ?_); refine gs_ 29 Tryz.func40 #[.agg #[.int .i64 a0, .bool a1, .bool a2, .int .i64 a3, .string a4, .int .i64 a5, .slice A6 l6.length c6, .slice A7 l7.length c7]] ?_
         refine (toA (HA.out.put8 HF.out (by decide)) R6.out C6.out R7.out C7.out E1.out).mono ?_
         rintro e w6 ⟨I6, i6, I7, i7, rfl, hA⟩
         refine ⟨_, rfl, ?_⟩
         replace HA := Aside0.mk hA
         clear hA HF)
      | ((with_reducible refine gate_dst (N := 8) rfl ?_); refine boxS_ 8 #[.int .i64 0, .bool false, .bool false, .int .i64 0, .string (⟨#[]⟩ : ByteArray), .int .i64 0, .slice none 0 0, .slice none 0 0] 62 (fun gX hg w7 hbox hb => ?_)
         have HF := Aside0.mk (HA.out.far hg)
         replace HA := Aside0.mk (HA.out.box hg hbox hb (by decide))
         clear hb hbox hg
         obtain ⟨_, _, _, _, _, _, _, _, _, _, _, _, _, _, _, _⟩ := bk8_ (HA.out.k _ (.head _)))
      | ((with_reducible refine gt_ 41 rfl ?_); refine gs_ 33 Tryz.func41 #[.agg #[.int .i64 x1, .bool x2, .bool x3, .int .i64 x4, .string x5, .int .i64 x6, .slice I6 x7.length i6, .slice I7 x8.length i7], .int .i64 z] ?_
         refine (cutI (HA.out.put8 HF.out (by decide)) HV.out (.head _) E3.out).mono ?_
         rintro e w8 ⟨J6, j6, J7, j7, rfl, hA⟩
         refine ⟨_, rfl, ?_⟩
         replace HA := Aside0.mk hA
         clear hA HF)
      | ((with_reducible refine gate_dst (N := 9) rfl ?_); refine boxS_ 9 #[.int .i64 0, .bool false, .bool false, .int .i64 0, .string (⟨#[]⟩ : ByteArray), .int .i64 0, .slice none 0 0, .slice none 0 0] 62 (fun gG hg w9 hbox hb => ?_)
         have HF := Aside0.mk (HA.out.far hg)
         replace HA := Aside0.mk (HA.out.box hg hbox hb (by decide))
         clear hb hbox hg
         have n3 := HF.out _ (.tail _ (.head _))
         have n4 := n3.symm
         obtain ⟨_, _, _, _, _, _, _, _, _, _, _, _, _, _, _, _⟩ := bk8_ (HA.out.k _ (.head _))
         obtain ⟨_, _, _, _, _, _, _, _, _, _, _, _, _, _, _, _⟩ := bk8_ (HA.out.k _ (.tail _ (.tail _ (.head _)))))
      | ((with_reducible refine gt_ 42 rfl ?_); refine gs_ 38 Tryz.func42 #[.agg #[.int .i64 r1, .bool r2, .bool r3, .int .i64 r4, .string r5, .int .i64 r6, .slice J6 r7.length j6, .slice J7 r8.length j7], .agg #[.int .i64 r1, .bool r2, .bool r3, .int .i64 r4, .string r5, .int .i64 r6, .slice G6 r7.length g6, .slice G7 r8.length g7]] ?_
         refine (eqA (HA.out.put8 HF.out (by decide)) (.head _) (.tail _ (.tail _ (.head _))) E4.out).mono ?_
         rintro e w10 ⟨rfl, hA⟩
         refine ⟨_, rfl, ?_⟩
         replace HA := Aside0.mk hA
         clear hA HF))
      replace HA := Aside0.mk HA.out.drew
      refine start_ (n := 5) (S := fun w' => w'.heap[gX]? = some (.cells #[.int .i64 x1, .bool x2, .bool x3, .int .i64 x4, .string x5, .int .i64 x6, .slice I6 x7.length i6, .slice I7 x8.length i7] 62 (0, 0)) ∧ w'.heap[gA]? = some (.cells #[.int .i64 a0, .bool a1, .bool a2, .int .i64 a3, .string a4, .int .i64 a5, .slice A6 l6.length c6, .slice A7 l7.length c7] 59 (0, 0))) (ds := []) #[false, false, false, false, false] (by kernel_rfl) rfl rfl ⟨HA.out.k _ (.tail _ (.head _)), HA.out.k _ (.tail _ (.tail _ (.tail _ (.head _))))⟩ (fun hHeld => ?_)
      generalize w10.drew = w11 at HA hHeld ⊢
      refine take_ (i := 0) (N := some 45) (v := ?_) (a' := ?_) #[true, false, false, false, false] rfl rfl (by kernel_rfl) (fun _ _ _ h => h) (Or.inl ⟨by rfl, ?_⟩) hHeld ?_ ?_
      rotate_left
      · rintro w' ⟨s0, s1⟩
        obtain ⟨_, _, _, _, _, _, _, _, _, _, _, _, _, _, _, _⟩ := bk8_ s0
        go_simp
        with_reducible rfl
      rotate_left
      · simp only [Act.put, List.setIfInBounds_toArray, List.set_cons_zero, List.set_cons_succ, i64_w, i32_w]
        rfl
      refine take_ (i := 1) (N := some 46) (v := ?_) (a' := ?_) #[true, true, false, false, false] rfl rfl (by kernel_rfl) (fun _ _ _ h => h) (Or.inl ⟨by rfl, ?_⟩) hHeld ?_ ?_
      rotate_left
      · rintro w' ⟨s0, s1⟩
        obtain ⟨_, _, _, _, _, _, _, _, _, _, _, _, _, _, _, _⟩ := bk8_ s1
        go_simp
        with_reducible rfl
      rotate_left
      · simp only [Act.put, List.setIfInBounds_toArray, List.set_cons_zero, List.set_cons_succ, i64_w, i32_w]
        rfl
      refine one_ (i := 2) (N := some 47) #[true, true, true, false, false] rfl rfl (by kernel_rfl) (by decide) (fun K hK => ?_)
      refine goes_ Tryz.func40 (by kernel_rfl) rfl #[.agg #[.int .i64 a0, .bool a1, .bool a2, .int .i64 a3, .string a4, .int .i64 a5, .slice A6 l6.length c6, .slice A7 l7.length c7]] (by rfl) rfl rfl argsS_ ?_
      refine (toA HA.out R6.out C6.out R7.out C7.out E1.out).mono ?_
      rintro e w12 ⟨K6, q6, K7, q7, rfl, hA⟩
      refine ⟨_, rfl, ?_⟩
      replace HA := Aside0.mk hA
      clear hA
      refine hK.out _ _ ⟨HA.out.k _ (.tail _ (.head _)), HA.out.k _ (.tail _ (.tail _ (.tail _ (.head _))))⟩ (fun hHeld => ?_)
      clear hK K
      refine normS_ ?_
      refine one_ (i := 3) (N := some 48) #[true, true, true, true, false] rfl rfl (by kernel_rfl) (by decide) (fun K hK => ?_)
      refine goes_ Tryz.func42 (by kernel_rfl) rfl #[.agg #[.int .i64 x1, .bool x2, .bool x3, .int .i64 x4, .string x5, .int .i64 x6, .slice I6 x7.length i6, .slice I7 x8.length i7], .agg #[.int .i64 x1, .bool x2, .bool x3, .int .i64 x4, .string x5, .int .i64 x6, .slice K6 x7.length q6, .slice K7 x8.length q7]] (by rfl) rfl rfl argsS_ ?_
      refine (eqA HA.out (.tail _ (.tail _ (.head _))) (.head _) E5.out).mono ?_
      rintro e w13 ⟨rfl, hA⟩
      refine ⟨_, rfl, ?_⟩
      replace HA := Aside0.mk hA
      clear hA
      refine hK.out _ _ ⟨HA.out.k _ (.tail _ (.head _)), HA.out.k _ (.tail _ (.tail _ (.tail _ (.head _))))⟩ (fun hHeld => ?_)
      clear hK K
      refine normS_ ?_
      refine pure_ (i := 4) (N := some 49) (v := ?_) (a' := ?_) #[true, true, true, true, true] rfl rfl (by kernel_rfl) (fun _ _ _ h => h) (Or.inl ⟨by rfl, ?_⟩) ?_ ?_
      rotate_left
      · intro w'
        go_simp
        with_reducible rfl
      rotate_left
      · simp only [Act.put, List.setIfInBounds_toArray, List.set_cons_zero, List.set_cons_succ, i64_w, i32_w]
        rfl
      refine done_ (by kernel_rfl) ?_
      obtain ⟨_, _, _, _, _, _, _, _, _, _, _, _, _, _, _, _⟩ := bk8_ (HA.out.k _ (.tail _ (.head _)))
      go_wp2_with (first
      | ((with_reducible refine gt_ 43 rfl ?_); refine gs_ 52 Tryz.func43 #[.agg #[.int .i64 x1, .bool x2, .bool x3, .int .i64 x4, .string x5, .int .i64 x6, .slice I6 x7.length i6, .slice I7 x8.length i7], .int .i64 1] ?_
         refine (markA [_, _] _ HA.out E6.out).mono ?_
         rintro e w14 ⟨rfl, hA⟩
         refine ⟨_, rfl, ?_⟩
         replace HA := Aside0.mk hA
         clear hA
         obtain ⟨_, _, _, _, _, _, _, _, _, _, _, _, _, _, _, _⟩ := bk8_ (HA.out.k _ (.head _))
         obtain ⟨_, _, _, _, _, _, _, _, _, _, _, _, _, _, _, _⟩ := bk8_ (HA.out.k _ (.tail _ (.tail _ (.head _)))))
      | ((with_reducible refine gt_ 43 rfl ?_); refine gs_ 68 Tryz.func43 #[.agg #[.int .i64 r1, .bool r2, .bool r3, .int .i64 r4, .string r5, .int .i64 r6, .slice J6 r7.length j6, .slice J7 r8.length j7], .int .i64 1] ?_
         refine (markA [_] _ HA.out E7.out).mono ?_
         rintro e w16 ⟨rfl, hA⟩
         refine ⟨_, rfl, ?_⟩
         replace HA := Aside0.mk hA
         clear hA
         obtain ⟨_, _, _, _, _, _, _, _, _, _, _, _, _, _, _, _⟩ := bk8_ (HA.out.k _ (.head _)))
      | ((with_reducible refine gt_ 44 rfl ?_); refine gs_ 71 Tryz.func44 #[.agg #[.int .i64 r1, .bool r2, .bool r3, .int .i64 r4, .string r5, .int .i64 r6, .slice J6 r7.length j6, .slice J7 r8.length j7], .int .i64 1] ?_
         refine (heldA HA.out (.tail _ (.head _)) E8.out).mono ?_
         rintro e w17 ⟨rfl, hA⟩
         refine ⟨_, rfl, ?_⟩
         replace HA := Aside0.mk hA
         clear hA
         obtain ⟨_, _, _, _, _, _, _, _, _, _, _, _, _, _, _, _⟩ := bk8_ (HA.out.k _ (.tail _ (.tail _ (.tail _ (.head _))))))
      | ((with_reducible refine gt_ 40 rfl ?_); refine gs_ 79 Tryz.func40 #[.agg #[.int .i64 a0, .bool a1, .bool a2, .int .i64 a3, .string a4, .int .i64 a5, .slice A6 l6.length c6, .slice A7 l7.length c7]] ?_
         refine (toA HA.out R6.out C6.out R7.out C7.out E1.out).mono ?_
         rintro e w18 ⟨L6, p6, L7, p7, rfl, hA⟩
         refine ⟨_, rfl, ?_⟩
         replace HA := Aside0.mk hA
         clear hA)
      | ((with_reducible refine gt_ 41 rfl ?_); refine gs_ 81 Tryz.func41 #[.agg #[.int .i64 x1, .bool x2, .bool x3, .int .i64 x4, .string x5, .int .i64 x6, .slice L6 x7.length p6, .slice L7 x8.length p7], .int .i64 z] ?_
         refine (cutI HA.out HV.out (.head _) E3.out).mono ?_
         rintro e w19 ⟨M6, o6, M7, o7, rfl, hA⟩
         refine ⟨_, rfl, ?_⟩
         replace HA := Aside0.mk hA
         clear hA)
      | ((with_reducible refine gate_dst (N := 14) rfl ?_); refine boxS_ 14 #[.int .i64 0, .bool false, .bool false, .int .i64 0, .string (⟨#[]⟩ : ByteArray), .int .i64 0, .slice none 0 0, .slice none 0 0] 62 (fun gH hg w20 hbox hb => ?_)
         have HF := Aside0.mk (HA.out.far hg)
         replace HA := Aside0.mk (HA.out.box hg hbox hb (by decide))
         clear hb hbox hg
         have n5 := HF.out _ (.tail _ (.tail _ (.head _)))
         have n6 := n5.symm
         obtain ⟨_, _, _, _, _, _, _, _, _, _, _, _, _, _, _, _⟩ := bk8_ (HA.out.k _ (.head _))
         obtain ⟨_, _, _, _, _, _, _, _, _, _, _, _, _, _, _, _⟩ := bk8_ (HA.out.k _ (.tail _ (.tail _ (.tail _ (.head _))))))
      | ((with_reducible refine gt_ 42 rfl ?_); refine gs_ 86 Tryz.func42 #[.agg #[.int .i64 r1, .bool r2, .bool r3, .int .i64 r4, .string r5, .int .i64 r6, .slice M6 r7.length o6, .slice M7 r8.length o7], .agg #[.int .i64 r1, .bool r2, .bool r3, .int .i64 r4, .string r5, .int .i64 r6, .slice G6 r7.length g6, .slice G7 r8.length g7]] ?_
         refine (eqA (HA.out.put8 HF.out (by decide)) (.head _) (.tail _ (.tail _ (.tail _ (.tail _ (.tail _ (.head _)))))) E4.out).mono ?_
         rintro e w21 ⟨rfl, hA⟩
         refine ⟨_, rfl, ?_⟩
         replace HA := Aside0.mk hA
         clear hA HF
         obtain ⟨_, _, _, _, _, _, _, _, _, _, _, _, _, _, _, _⟩ := bk8_ (HA.out.k _ (.tail _ (.head _))))
      | ((with_reducible refine gt_ 44 rfl ?_); refine gs_ 95 Tryz.func44 #[.agg #[.int .i64 r1, .bool r2, .bool r3, .int .i64 r4, .string r5, .int .i64 r6, .slice J6 r7.length j6, .slice J7 r8.length j7], .int .i64 1] ?_
         refine (heldA HA.out (.tail _ (.tail _ (.tail _ (.head _)))) E8.out).mono ?_
         rintro e w22 ⟨rfl, hA⟩
         refine ⟨_, rfl, ?_⟩
         replace HA := Aside0.mk hA
         clear hA)
      | (go_at_call 42
         refine (eqA HA.out (.tail _ (.head _)) (.tail _ (.tail _ (.tail _ (.head _)))) E4.out).mono ?_
         rintro e w15 ⟨rfl, hA⟩
         replace HA := Aside0.mk hA
         clear hA
         obtain ⟨_, _, _, _, _, _, _, _, _, _, _, _, _, _, _, _⟩ := bk8_ (HA.out.k _ (.head _))))
      go_ret
      exact ⟨rfl, HA.out.b⟩)
end Go.Proofs.YtiegkjimpclmaaaGreatDoor.P
namespace Go.Proofs.YtiegkjimpclmaaaGreatDoor.Pure
open Go.Proofs.YtiegkjimpclmaaaGreatDoor.P
theorem szM2_ev (id : Int) (re cu : Bool) (co : Int) (nm : ByteArray) (ty : Int) (l6 l7 : List LRec) (h4 : nm.size ≤ maxLen) (m6 : l6.length ≤ maxLen) (w6 : ∀ y ∈ l6, y.f0.size ≤ maxLen ∧ y.f3.size ≤ maxLen) (m7 : l7.length ≤ maxLen) (w7 : ∀ y ∈ l7, y.f0.size ≤ maxLen ∧ y.f3.size ≤ maxLen) :
 ∃ t, Ev (fun k => laws_szMessage.f k id re cu co nm ty l6 l7 1048576) t ∧ (0 ≤ t → t ≤ 1048576 ∧ Small nm ∧ l6.length ≤ 1048576 ∧ (∀ y ∈ l6, Small y.f0 ∧ Small y.f3) ∧ l7.length ≤ 1048576 ∧ (∀ y ∈ l7, Small y.f0 ∧ Small y.f3)) := by
 have hw : wrap64 (1048576 - (nm.size : Int)) = 1048576 - (nm.size : Int) := by simp only [maxLen] at h4; unfold wrap64; omega
 by_cases hn : 1048576 - (nm.size : Int) < 0
 · refine ⟨-1, Ev.congr (f := fun _ => some (-1)) (fun k => ?_) (Ev.now _), fun h => absurd h (by omega)⟩
   unfold laws_szMessage.f
   rw [hw, if_pos hn]
 · obtain ⟨t6, e6, q6⟩ := szRS_ev l6 (1048576 - (nm.size : Int)) (by omega) (by omega) m6 w6
   have hf : ∀ k, laws_szMessage.f k id re cu co nm ty l6 l7 1048576 = ((laws_szRecordS.f k l6 (1048576 - (nm.size : Int))).bind fun t332 => (if t332 < 0 then (some (-1)) else ((laws_szRecordS.f k l7 t332).bind fun t333 => (if t333 < 0 then (some (-1)) else (some t333))))) := fun k => by
    unfold laws_szMessage.f
    rw [hw, if_neg hn]
   by_cases h6 : t6 < 0
   · refine ⟨-1, Ev.congr hf (Ev.bind e6 ?_), fun h => absurd h (by omega)⟩
     simp only [if_pos h6]; exact Ev.now _
   · obtain ⟨p1, p2, p3⟩ := q6 (by omega)
     obtain ⟨t7, e7, q7⟩ := szRS_ev l7 t6 (by omega) (by omega) m7 w7
     by_cases h7 : t7 < 0
     · refine ⟨-1, Ev.congr hf (Ev.bind e6 ?_), fun h => absurd h (by omega)⟩
       simp only [if_neg h6]
       refine Ev.bind e7 ?_
       simp only [if_pos h7]; exact Ev.now _
     · obtain ⟨r1, r2, r3⟩ := q7 (by omega)
       refine ⟨t7, Ev.congr hf (Ev.bind e6 ?_), fun h => ⟨by omega, by unfold Small; omega, p2, p3, r2, r3⟩⟩
       simp only [if_neg h6]
       refine Ev.bind e7 ?_
       simp only [if_neg h7]; exact Ev.now _
theorem toM2_ev (id : Int) (re cu : Bool) (co : Int) (nm : ByteArray) (ty : Int) (l6 l7 : List LRec) (h6 : l6.length ≤ 1048576) (h7 : l7.length ≤ 1048576) : Ev (fun k => laws_toMessage.f k id re cu co nm ty l6 l7) (id, re, cu, co, nm, ty, l6.map conv, l7.map conv) :=
 Ev.congr (fun k => rfl) (Ev.bind (toRS_ev l6 h6) (Ev.bind (toRS_ev l7 h7) (Ev.now _)))
theorem eqM2_ev (id : Int) (re cu : Bool) (co : Int) (nm : ByteArray) (ty : Int) (l6 l7 : List IRec) (h6 : l6.length ≤ 1048576) (h7 : l7.length ≤ 1048576) : Ev (fun k => laws_eqMessage.f k id re cu co nm ty l6 l7 id re cu co nm ty l6 l7) true := by
 unfold laws_eqMessage.f
 simp only [if_true, bne_self_eq_false, Bool.false_eq_true, if_false]
 exact Ev.bind (eqRS_ev l6 h6) (Ev.bind (eqRS_ev l7 h7) (Ev.now _))
theorem markM_ev (a : Nat) (ha : a < 100000000) (id : Int) (re cu : Bool) (co : Int) (nm : ByteArray) (ty : Int) (l6 l7 : List IRec) (h6 : l6.length ≤ 1048576) (h7 : l7.length ≤ 1048576) : Ev (fun k => laws_markMessage.f k id re cu co nm ty l6 l7 (a : Int)) (((a + 4 * l6.length + 4 * l7.length : Nat) : Int), marksR a l6.length, marksR (a + 4 * l6.length) l7.length) :=
 Ev.congr (fun k => rfl) (Ev.bind (markR_ev a (by omega) l6 h6) (Ev.bind (markR_ev (a + 4 * l6.length) (by omega) l7 h7) (Ev.now _)))
theorem heldM_ev (a : Nat) (ha : a < 100000000) (id : Int) (re cu : Bool) (co : Int) (nm : ByteArray) (ty : Int) (n6 n7 : Nat) (h6 : n6 ≤ 1048576) (h7 : n7 ≤ 1048576) : Ev (fun k => laws_heldMessage.f k id re cu co nm ty (marksR a n6) (marksR (a + 4 * n6) n7) (a : Int)) ((a + 4 * n6 + 4 * n7 : Nat) : Int) := by
 refine Ev.congr (fun k => rfl) (Ev.bind (heldR_ev a n6 (by omega) h6) ?_)
 simp only [if_neg (show ¬ ((a + 4 * n6 : Nat) : Int) < 0 by omega)]
 refine Ev.bind (heldR_ev (a + 4 * n6) n7 (by omega) h7) ?_
 simp only [if_neg (show ¬ ((a + 4 * n6 + 4 * n7 : Nat) : Int) < 0 by omega)]
 exact Ev.now _
theorem FnExactCutMessage : ∀ (id : Int) (re cu : Bool) (co : Int) (nm : ByteArray) (ty : Int) (l6 l7 : List LRec) (z : Int), nm.size ≤ maxLen → l6.length ≤ maxLen → (∀ y ∈ l6, y.f0.size ≤ maxLen ∧ y.f3.size ≤ maxLen) → l7.length ≤ maxLen → (∀ y ∈ l7, y.f0.size ≤ maxLen ∧ y.f3.size ≤ maxLen) → ∃ k, laws_FnExactCutMessage.f k id re cu co nm ty l6 l7 z := by
 intro id re cu co nm ty l6 l7 z h4 m6 w6 m7 w7
 obtain ⟨t, ⟨k0, e0⟩, q⟩ := szM2_ev id re cu co nm ty l6 l7 h4 m6 w6 m7 w7
 by_cases ht : t < 0
 · exact ⟨k0, t, e0 k0 (Nat.le_refl _), Or.inl ht⟩
 · obtain ⟨q0, q1, q2, q3, q4, q5⟩ := q (by omega)
   have l6' : (l6.map conv).length ≤ 1048576 := by rw [List.length_map]; exact q2
   have l7' : (l7.map conv).length ≤ 1048576 := by rw [List.length_map]; exact q4
   obtain ⟨r1, r2, r3, r4, r5, r6, r7, r8, b, n7, n8, c1, c2⟩ := cut_both id re cu co nm ty (l6.map conv) (l7.map conv) z q1 l6' l7' (small_conv q3) (small_conv q5)
   obtain ⟨k1, e1⟩ := toM2_ev id re cu co nm ty l6 l7 q2 q4
   obtain ⟨k2, e2⟩ := c1
   obtain ⟨k3, e3⟩ := c2
   obtain ⟨k4, e4⟩ := eqM2_ev r1 r2 r3 r4 r5 r6 r7 r8 (by omega) (by omega)
   obtain ⟨k5, e5⟩ := eqM2_ev id re cu co nm ty (l6.map conv) (l7.map conv) l6' l7'
   obtain ⟨k6, e6⟩ := markM_ev 1 (by omega) id re cu co nm ty _ _ l6' l7'
   obtain ⟨k7, e7⟩ := markM_ev 1 (by omega) r1 r2 r3 r4 r5 r6 r7 r8 (by omega) (by omega)
   obtain ⟨k8, e8⟩ := heldM_ev 1 (by omega) r1 r2 r3 r4 r5 r6 r7.length r8.length (by omega) (by omega)
   refine ⟨k0 + k1 + k2 + k3 + k4 + k5 + k6 + k7 + k8, t, e0 _ (by omega), Or.inr ⟨by omega, id, re, cu, co, nm, ty, l6.map conv, l7.map conv, r1, r2, r3, r4, r5, r6, r7, r8, b, _, _, _, _, _, _, e1 _ (by omega), e2 _ (by omega), e3 _ (by omega), e4 _ (by omega), e5 _ (by omega), e6 _ (by omega), by omega, e7 _ (by omega), by omega, e8 _ (by omega)⟩⟩
end Go.Proofs.YtiegkjimpclmaaaGreatDoor.Pure
namespace Go.Proofs.YtiegkjimpclmaaaGreatDoor.fnExactCutMessage
open Go.ChangeShapes Go.WideShapes Go.ChangeAt Go.Joins Go.Proofs.YtiegkjimpclmaaaGreatDoor.P
open Go.ChangeMaps (open_string shut_string)
theorem own : ownKnob Tryz.prog.godebug = none := by kernel_rfl
theorem laidOut : laidOutB Tryz.prog = true := by kernel_rfl
instance : Inhabited (P.S91) := ⟨P.z91⟩
theorem opens_rec : Opens Tryz.prog 91 P.k91 (fun x => x.f0.size ≤ maxLen ∧ x.f3.size ≤ maxLen) :=
  Opens.imp (opens_iso (f := fun x : P.S91 => (x.f0, x.f1, x.f2, x.f3)) (fun x => (⟨x.1, x.2.1, x.2.2.1, x.2.2.2⟩ : P.S91)) (fun _ => rfl) (opens_struct4 Tryz.underlying91 (by kernel_rfl) (by kernel_rfl) (opens_text Tryz.underlying9) (opens_int Tryz.underlying3) (opens_int Tryz.underlying3) (opens_text Tryz.underlying9))) fun x h => ⟨h.1, h.2.2.2⟩
theorem opens_recs : Opens Tryz.prog 37 (Kd.slice 91 P.k91) (fun l => l.length ≤ maxLen ∧ ∀ y ∈ l, y.f0.size ≤ maxLen ∧ y.f3.size ≤ maxLen) :=
  opens_slice Tryz.underlying37 (by kernel_rfl) opens_rec
noncomputable def low : Nat := (World.holding Tryz.prog default ⟨#[], #[], []⟩).heap.size
noncomputable def laidWorld (os : Os) : World :=
  { World.holding Tryz.prog os ⟨#[.cells #[.string { data := #[118, 97, 108, 117, 101, 32, 111, 117, 116, 32, 111, 102, 32, 114, 97, 110, 103, 101] }] 233, .cells #[.string { data := #[105, 110, 118, 97, 108, 105, 100, 32, 115, 121, 110, 116, 97, 120] }] 233], #[], []⟩ with heap := ((((((((World.holding Tryz.prog os ⟨#[.cells #[.string { data := #[118, 97, 108, 117, 101, 32, 111, 117, 116, 32, 111, 102, 32, 114, 97, 110, 103, 101] }] 233, .cells #[.string { data := #[105, 110, 118, 97, 108, 105, 100, 32, 115, 121, 110, 116, 97, 120] }] 233], #[], []⟩).heap.modify 6 fun
      | .cells _ t frozen => .cells #[.int .u8 0, .int .u8 1, .int .u8 28, .int .u8 2, .int .u8 29, .int .u8 14, .int .u8 24, .int .u8 3, .int .u8 30, .int .u8 22, .int .u8 20, .int .u8 15, .int .u8 25, .int .u8 17, .int .u8 4, .int .u8 8, .int .u8 31, .int .u8 27, .int .u8 13, .int .u8 23, .int .u8 21, .int .u8 19, .int .u8 16, .int .u8 7, .int .u8 26, .int .u8 12, .int .u8 18, .int .u8 6, .int .u8 11, .int .u8 5, .int .u8 10, .int .u8 9] t frozen
      | o => o).modify 7 fun
      | .cells _ t frozen => .cells #[.int .u8 0, .int .u8 1, .int .u8 56, .int .u8 2, .int .u8 57, .int .u8 49, .int .u8 28, .int .u8 3, .int .u8 61, .int .u8 58, .int .u8 42, .int .u8 50, .int .u8 38, .int .u8 29, .int .u8 17, .int .u8 4, .int .u8 62, .int .u8 47, .int .u8 59, .int .u8 36, .int .u8 45, .int .u8 43, .int .u8 51, .int .u8 22, .int .u8 53, .int .u8 39, .int .u8 33, .int .u8 30, .int .u8 24, .int .u8 18, .int .u8 12, .int .u8 5, .int .u8 63, .int .u8 55, .int .u8 48, .int .u8 27, .int .u8 60, .int .u8 41, .int .u8 37, .int .u8 16, .int .u8 46, .int .u8 35, .int .u8 44, .int .u8 21, .int .u8 52, .int .u8 32, .int .u8 23, .int .u8 11, .int .u8 54, .int .u8 26, .int .u8 40, .int .u8 15, .int .u8 34, .int .u8 20, .int .u8 31, .int .u8 10, .int .u8 25, .int .u8 14, .int .u8 19, .int .u8 9, .int .u8 13, .int .u8 8, .int .u8 7, .int .u8 6] t frozen
      | o => o).modify 3 fun
      | .cells _ t frozen => .cells #[.int .u64 1, .int .u64 10, .int .u64 100, .int .u64 1000, .int .u64 10000, .int .u64 100000, .int .u64 1000000, .int .u64 10000000, .int .u64 100000000, .int .u64 1000000000, .int .u64 10000000000, .int .u64 100000000000, .int .u64 1000000000000, .int .u64 10000000000000, .int .u64 100000000000000, .int .u64 1000000000000000, .int .u64 10000000000000000, .int .u64 100000000000000000, .int .u64 1000000000000000000, .int .u64 10000000000000000000] t frozen
      | o => o).modify 5 fun
      | .cells _ t frozen => .cells #[.int .u8 128, .int .u8 191, .int .u8 160, .int .u8 191, .int .u8 128, .int .u8 159, .int .u8 144, .int .u8 191, .int .u8 128, .int .u8 143, .int .u8 0, .int .u8 0, .int .u8 0, .int .u8 0, .int .u8 0, .int .u8 0, .int .u8 0, .int .u8 0, .int .u8 0, .int .u8 0, .int .u8 0, .int .u8 0, .int .u8 0, .int .u8 0, .int .u8 0, .int .u8 0, .int .u8 0, .int .u8 0, .int .u8 0, .int .u8 0, .int .u8 0, .int .u8 0] t frozen
      | o => o).modify 2 fun
      | .cells _ t frozen => .cells #[.iface 231 (.pointer (some ⟨low, 0, none⟩))] t frozen
      | o => o).modify 1 fun
      | .cells _ t frozen => .cells #[.iface 231 (.pointer (some ⟨low + 1, 0, none⟩))] t frozen
      | o => o).modify 4 fun
      | .cells _ t frozen => .cells #[.int .u8 240, .int .u8 240, .int .u8 240, .int .u8 240, .int .u8 240, .int .u8 240, .int .u8 240, .int .u8 240, .int .u8 240, .int .u8 240, .int .u8 240, .int .u8 240, .int .u8 240, .int .u8 240, .int .u8 240, .int .u8 240, .int .u8 240, .int .u8 240, .int .u8 240, .int .u8 240, .int .u8 240, .int .u8 240, .int .u8 240, .int .u8 240, .int .u8 240, .int .u8 240, .int .u8 240, .int .u8 240, .int .u8 240, .int .u8 240, .int .u8 240, .int .u8 240, .int .u8 240, .int .u8 240, .int .u8 240, .int .u8 240, .int .u8 240, .int .u8 240, .int .u8 240, .int .u8 240, .int .u8 240, .int .u8 240, .int .u8 240, .int .u8 240, .int .u8 240, .int .u8 240, .int .u8 240, .int .u8 240, .int .u8 240, .int .u8 240, .int .u8 240, .int .u8 240, .int .u8 240, .int .u8 240, .int .u8 240, .int .u8 240, .int .u8 240, .int .u8 240, .int .u8 240, .int .u8 240, .int .u8 240, .int .u8 240, .int .u8 240, .int .u8 240, .int .u8 240, .int .u8 240, .int .u8 240, .int .u8 240, .int .u8 240, .int .u8 240, .int .u8 240, .int .u8 240, .int .u8 240, .int .u8 240, .int .u8 240, .int .u8 240, .int .u8 240, .int .u8 240, .int .u8 240, .int .u8 240, .int .u8 240, .int .u8 240, .int .u8 240, .int .u8 240, .int .u8 240, .int .u8 240, .int .u8 240, .int .u8 240, .int .u8 240, .int .u8 240, .int .u8 240, .int .u8 240, .int .u8 240, .int .u8 240, .int .u8 240, .int .u8 240, .int .u8 240, .int .u8 240, .int .u8 240, .int .u8 240, .int .u8 240, .int .u8 240, .int .u8 240, .int .u8 240, .int .u8 240, .int .u8 240, .int .u8 240, .int .u8 240, .int .u8 240, .int .u8 240, .int .u8 240, .int .u8 240, .int .u8 240, .int .u8 240, .int .u8 240, .int .u8 240, .int .u8 240, .int .u8 240, .int .u8 240, .int .u8 240, .int .u8 240, .int .u8 240, .int .u8 240, .int .u8 240, .int .u8 240, .int .u8 240, .int .u8 240, .int .u8 240, .int .u8 241, .int .u8 241, .int .u8 241, .int .u8 241, .int .u8 241, .int .u8 241, .int .u8 241, .int .u8 241, .int .u8 241, .int .u8 241, .int .u8 241, .int .u8 241, .int .u8 241, .int .u8 241, .int .u8 241, .int .u8 241, .int .u8 241, .int .u8 241, .int .u8 241, .int .u8 241, .int .u8 241, .int .u8 241, .int .u8 241, .int .u8 241, .int .u8 241, .int .u8 241, .int .u8 241, .int .u8 241, .int .u8 241, .int .u8 241, .int .u8 241, .int .u8 241, .int .u8 241, .int .u8 241, .int .u8 241, .int .u8 241, .int .u8 241, .int .u8 241, .int .u8 241, .int .u8 241, .int .u8 241, .int .u8 241, .int .u8 241, .int .u8 241, .int .u8 241, .int .u8 241, .int .u8 241, .int .u8 241, .int .u8 241, .int .u8 241, .int .u8 241, .int .u8 241, .int .u8 241, .int .u8 241, .int .u8 241, .int .u8 241, .int .u8 241, .int .u8 241, .int .u8 241, .int .u8 241, .int .u8 241, .int .u8 241, .int .u8 241, .int .u8 241, .int .u8 241, .int .u8 241, .int .u8 2, .int .u8 2, .int .u8 2, .int .u8 2, .int .u8 2, .int .u8 2, .int .u8 2, .int .u8 2, .int .u8 2, .int .u8 2, .int .u8 2, .int .u8 2, .int .u8 2, .int .u8 2, .int .u8 2, .int .u8 2, .int .u8 2, .int .u8 2, .int .u8 2, .int .u8 2, .int .u8 2, .int .u8 2, .int .u8 2, .int .u8 2, .int .u8 2, .int .u8 2, .int .u8 2, .int .u8 2, .int .u8 2, .int .u8 2, .int .u8 19, .int .u8 3, .int .u8 3, .int .u8 3, .int .u8 3, .int .u8 3, .int .u8 3, .int .u8 3, .int .u8 3, .int .u8 3, .int .u8 3, .int .u8 3, .int .u8 3, .int .u8 35, .int .u8 3, .int .u8 3, .int .u8 52, .int .u8 4, .int .u8 4, .int .u8 4, .int .u8 68, .int .u8 241, .int .u8 241, .int .u8 241, .int .u8 241, .int .u8 241, .int .u8 241, .int .u8 241, .int .u8 241, .int .u8 241, .int .u8 241, .int .u8 241] t frozen
      | o => o) }
theorem laid_met (os : Os) : laidMet Tryz.prog Rows.fnExactCutMessageRow.laid ((laidWorld os).forCall (fun _ _ => 0) ⟨#[], #[.agg #[.int .i64 0, .bool false, .bool false, .int .i64 0, .string ByteArray.empty, .int .i64 0, .slice none 0 0, .slice none 0 0], .int .i64 0], []⟩).memory :=
  laidMet_of_run' 8 (by kernel_rfl) (by kernel_rfl)
theorem ptr_row (u : TypeId) (h : Tryz.prog.typeName? 3 u = some "*errors.errorString") : u = 231 :=
  typeName_ptr_named (nm := "errors.errorString") (by rw [show "*" ++ "errors.errorString" = "*errors.errorString" by decide]; kernel_rfl) (by kernel_rfl) (by decide) u (by rw [show "*" ++ "errors.errorString" = "*errors.errorString" by decide]; exact h)
theorem vars_of {W : World} (hL : laidMet Tryz.prog Rows.fnExactCutMessageRow.laid W) : P.Vars W := by
  obtain ⟨_, _, hs, -, -, -⟩ := laid_sentinel (n := "strconv.ErrSyntax") (g := 1) hL.tail.tail.tail.tail.tail (by kernel_rfl) (by kernel_rfl) Tryz.underlying104 ptr_row Tryz.underlying231 Tryz.underlying233 rfl rfl Tryz.underlying9 (by kernel_rfl) (by kernel_rfl)
  obtain ⟨_, _, hr, -, -, -⟩ := laid_sentinel (n := "strconv.ErrRange") (g := 2) hL.tail.tail.tail.tail (by kernel_rfl) (by kernel_rfl) Tryz.underlying104 ptr_row Tryz.underlying231 Tryz.underlying233 rfl rfl Tryz.underlying9 (by kernel_rfl) (by kernel_rfl)
  have hp : laidMet Tryz.prog (("internal/strconv.uint64pow10", Lib.tabData .u64 Lib.pow10Tab) :: _) W := hL.tail.tail
  have ht := Lib.tabIs_of_head (g := 3) (by kernel_rfl) (by kernel_rfl) Tryz.underlying221 Tryz.underlying115 (by kernel_rfl) (by kernel_rfl) hp
  exact ⟨⟨_, _, hs⟩, ⟨_, _, hr⟩, ht⟩
theorem contract (H : Type) (enc : TypeId × Value → H) (W : World) (base : Nat) (args : Array Value) (ds gs : List (DataW H)) (before : List MemPlace)
    (hval0 : ∀ (j : Nat) t v, Tryz.f7.params[j]? = some t → args[j]? = some v → Value.okWide Tryz.prog W .any base t v)
    (hW : DataW.Whole enc Tryz.prog Tryz.f7.params.toList Rows.fnExactCutMessageSpec.vars false W args.toList ds gs before)
    (hsz0 : (DataW.weightsEach Tryz.prog (Tryz.f7.params.toList ++ Rows.fnExactCutMessageSpec.plain.varTypes Tryz.prog) (ds ++ gs)).all (· ≤ reachBytes) = true) (hL : laidMet Tryz.prog Rows.fnExactCutMessageRow.laid W) :
    Calls Tryz.prog 7 args W fun e W' => ∃ v, e = .returned v ∧ Rows.fnExactCutMessageSpec.post enc Tryz.prog Tryz.f7 false true false false W args v W' := by
  have hsz : (DataW.weightsEach Tryz.prog (Tryz.f7.params.toList ++ Rows.fnExactCutMessageSpec.plain.varTypes Tryz.prog) (ds ++ gs)).all (· ≤ reachBytes) = true := hsz0
  have hval : ∀ (j : Nat) t v, Tryz.f7.params[j]? = some t → args[j]? = some v → Value.okWide Tryz.prog W .any base t v := hval0
  have hW' := hW
  obtain ⟨p, q, hA0, hV, rfl, hfz, hnd⟩ := hW
  have hA : DataW.TrodAll enc Tryz.prog W 0 (fun _ => true) true Tryz.f7.params.toList args.toList ds p := hA0
  rw [Tryz.params7] at hA hval hsz
  obtain ⟨v0, vs0, d0, ds0, p0, q0, hargs, rfl, rfl, h0, r0⟩ := trodAll_cons hA
  obtain ⟨v1, vs1, d1, ds1, p1, q1, rfl, rfl, rfl, h1, r1⟩ := trodAll_cons r0
  obtain ⟨rfl, rfl, rfl⟩ := trodAll_nil r1
  obtain rfl : args = #[v0, v1] := by cases args; simp_all
  obtain ⟨rfl, rfl⟩ := trodVars_none hV
  have k0 := h0
  have lt0 : ∀ x ∈ p0, x.block < W.heap.size := by obtain ⟨m, hm⟩ := k0; exact DataW.trod_lt m _ _ _ hm
  obtain ⟨l0, n0, rfl, z0, f0⟩ := open_agg Tryz.underlying59 (by kernel_rfl) (by kernel_rfl) (hval 0 59 v0 rfl rfl) h0
  obtain ⟨c0_0, c0_1, c0_2, c0_3, c0_4, c0_5, c0_6, c0_7, rfl⟩ := list8 z0
  obtain ⟨y0_0, hy0_0⟩ := f0 0 _ c0_0 rfl rfl
  obtain ⟨g0_0, eg0_0, wg0_0⟩ := opens_int Tryz.underlying3 H enc W 0 _ true _ _ _ hy0_0
  obtain ⟨rfl, _⟩ := List.cons.inj eg0_0
  obtain ⟨y0_1, hy0_1⟩ := f0 1 _ c0_1 rfl rfl
  obtain ⟨g0_1, eg0_1, wg0_1⟩ := opens_bool Tryz.underlying4 H enc W 0 _ true _ _ _ hy0_1
  obtain ⟨rfl, _⟩ := List.cons.inj eg0_1
  obtain ⟨y0_2, hy0_2⟩ := f0 2 _ c0_2 rfl rfl
  obtain ⟨g0_2, eg0_2, wg0_2⟩ := opens_bool Tryz.underlying4 H enc W 0 _ true _ _ _ hy0_2
  obtain ⟨rfl, _⟩ := List.cons.inj eg0_2
  obtain ⟨y0_3, hy0_3⟩ := f0 3 _ c0_3 rfl rfl
  obtain ⟨g0_3, eg0_3, wg0_3⟩ := opens_int Tryz.underlying3 H enc W 0 _ true _ _ _ hy0_3
  obtain ⟨rfl, _⟩ := List.cons.inj eg0_3
  obtain ⟨y0_4, hy0_4⟩ := f0 4 _ c0_4 rfl rfl
  obtain ⟨g0_4, eg0_4, wg0_4⟩ := opens_text Tryz.underlying9 H enc W 0 _ true _ _ _ hy0_4
  obtain ⟨rfl, _⟩ := List.cons.inj eg0_4
  obtain ⟨y0_5, hy0_5⟩ := f0 5 _ c0_5 rfl rfl
  obtain ⟨g0_5, eg0_5, wg0_5⟩ := opens_int Tryz.underlying3 H enc W 0 _ true _ _ _ hy0_5
  obtain ⟨rfl, _⟩ := List.cons.inj eg0_5
  obtain ⟨y0_6, hy0_6⟩ := f0 6 _ c0_6 rfl rfl
  obtain ⟨g0_6, ⟨Ag0_6, cg0_6, eg0_6, lg0_6, rg0_6⟩, mg0_6, wg0_6⟩ := opens_recs H enc W 0 _ true _ _ _ hy0_6
  obtain ⟨rfl, _⟩ := List.cons.inj eg0_6
  obtain ⟨y0_7, hy0_7⟩ := f0 7 _ c0_7 rfl rfl
  obtain ⟨g0_7, ⟨Ag0_7, cg0_7, eg0_7, lg0_7, rg0_7⟩, mg0_7, wg0_7⟩ := opens_recs H enc W 0 _ true _ _ _ hy0_7
  obtain ⟨rfl, _⟩ := List.cons.inj eg0_7
  clear f0
  have k1 := h1
  have lt1 : ∀ x ∈ p1, x.block < W.heap.size := by obtain ⟨m, hm⟩ := k1; exact DataW.trod_lt m _ _ _ hm
  obtain ⟨a1, rfl, rfl, rfl, w1⟩ := open_int Tryz.underlying3 (hval 1 3 v1 rfl rfl) h1
  clear hA0 hval0 hsz0 hsz
  obtain ⟨k, hk⟩ := Pure.FnExactCutMessage g0_0 g0_1 g0_2 g0_3 g0_4 g0_5 g0_6 g0_7 a1 wg0_4 mg0_6 wg0_6 mg0_7 wg0_7
  refine (P.laws_FnExactCutMessage.calls k g0_0 g0_1 g0_2 g0_3 g0_4 g0_5 Ag0_6 cg0_6 g0_6 Ag0_7 cg0_7 g0_7 a1 true W rg0_6 lg0_6 rg0_7 lg0_7 hk (vars_of hL)).mono fun e W' ⟨he, bel⟩ => ?_
  subst he
  exact ⟨_, rfl, _, _, _, [], _, [], hW', trodAll_mk1 (shut_bool Tryz.underlying4 _), (trodAll_cons_mk (Below.trod laidOut (by kernel_rfl) (of_decide_eq_true (by kernel_rfl)) k0 bel lt0) (trodAll_cons_mk (Below.trod laidOut (by kernel_rfl) (of_decide_eq_true (by kernel_rfl)) k1 bel lt1) trodAll_mk0)), rfl, bel.frame _, fun h => by cases h⟩
theorem reads (os : Os) {H : Type} (enc : TypeId × Value → H) : ∃ places, DataW.whole enc Tryz.prog ((laidWorld os).forCall (fun _ _ => 0) ⟨#[], #[.agg #[.int .i64 0, .bool false, .bool false, .int .i64 0, .string ByteArray.empty, .int .i64 0, .slice none 0 0, .slice none 0 0], .int .i64 0], []⟩).memory Tryz.f7.params.toList Rows.fnExactCutMessageSpec.vars false (#[.agg #[.int .i64 0, .bool false, .bool false, .int .i64 0, .string ByteArray.empty, .int .i64 0, .slice none 0 0, .slice none 0 0], .int .i64 0] : Array Value).toList 8 = some ([.agg [.lit (.int .i64 0), .lit (.bool false), .lit (.bool false), .lit (.int .i64 0), .lit (.string []), .lit (.int .i64 0), .nil, .nil], .lit (.int .i64 0)], [], places) :=
  ⟨[], by kernel_rfl⟩
theorem lifted (os : Os) (started : os.Started) (H : Type) (enc : TypeId × Value → H) (F : Stop.Interp) :
    ReturnsInHanded {} Tryz.checked os 7 .any ((OpenSpec.ofChange Rows.fnExactCutMessageSpec).preRow enc Tryz.prog Tryz.f7 Rows.fnExactCutMessageRow.domain false Rows.fnExactCutMessageRow.laid) (((OpenSpec.ofChange Rows.fnExactCutMessageSpec).at F).post enc Tryz.prog Tryz.f7 false true false false) := by
  obtain ⟨places, hx⟩ := reads os enc
  refine returnsInHanded_of_row (C := Tryz.checked) (s := OpenSpec.ofChange Rows.fnExactCutMessageSpec) own started (by kernel_rfl) Tryz.func7
    (witness_row_at (enc := enc) (C := Tryz.checked) false (laidWorld os) #[.agg #[.int .i64 0, .bool false, .bool false, .int .i64 0, .string ByteArray.empty, .int .i64 0, .slice none 0 0, .slice none 0 0], .int .i64 0] rfl (by kernel_rfl) (by kernel_rfl) (by kernel_rfl)
      (OpenSpec.preRow_of_cond 8 hx (by kernel_rfl) (fun k hk => by cases hk) (by kernel_rfl) (laid_met os))) ?_
  intro W base args ds gs before hval hW _ _ hsz hL _ _
  exact contract H enc W base args ds gs before hval hW hsz hL
theorem said : Rows.FnExactCutMessageSaid :=
  OpenClaim.holds_of_cond 7 Tryz.f7 rfl rfl rfl rfl rfl rfl rfl ⟨rfl, rfl, rfl, rfl, rfl⟩ rfl rfl rfl rfl rfl (by kernel_rfl) Tryz.func7 (by kernel_rfl)
    (of_decide_eq_true (by kernel_rfl)) (by unfold Func.isWrapper; first | (rw [if_pos (by decide +kernel)]; kernel_rfl) | (rw [if_neg (by decide +kernel)]; exact ⟨rfl, rfl⟩))
    (fun os started H enc _ F => by rw [OpenClaim.pre_eq_preRow]; exact lifted os started H enc F)
theorem wants : Tryz.f7.params.toList.all (fun t => Tryz.prog.wantsStandIn t == false) = true := by kernel_rfl
theorem plain (f : FuncId) (fn : Func) (hf : Tryz.pinned.checked.prog.funcNamed "loop.example/g00300/laws.FnExactCutMessage" = some f) (hfn : Tryz.pinned.checked.prog.funcs[f]? = some fn) :
    true = Tryz.pinned.checked.prog.looks [] ∧ ∀ (j : Nat) t, fn.params[j]? = some t → Tryz.pinned.checked.prog.wantsStandIn t = false := by
  obtain rfl : f = 7 := Option.some.inj ((show Tryz.prog.funcNamed "loop.example/g00300/laws.FnExactCutMessage" = some 7 by kernel_rfl).symm.trans hf) |>.symm
  obtain rfl : fn = Tryz.f7 := (Option.some.inj (Tryz.func7.symm.trans hfn)).symm
  refine ⟨by kernel_rfl, fun j t ht => ?_⟩
  exact eq_of_beq (List.all_eq_true.1 wants t (Array.mem_toList_iff.2 (Array.mem_of_getElem? ht)))
theorem proved : Rows.FnExactCutMessageCardSaid :=
  Claim7.holds_tied_plain_at .later [] _ _ _ _ said (fun _ h => by cases h) (by kernel_rfl) (fun _ h => by cases h) fnExactCutMessage_row_tie rfl ⟨rfl, rfl⟩ (by kernel_rfl) rfl plain (by kernel_rfl)
#print axioms proved
end Go.Proofs.YtiegkjimpclmaaaGreatDoor.fnExactCutMessage
namespace Go.Proofs.YtiegkjimpclmaaaGreatDoor
theorem fnExactCutMessage_holds : Rows.FnExactCutMessageCardSaid := fnExactCutMessage.proved
end Go.Proofs.YtiegkjimpclmaaaGreatDoor
