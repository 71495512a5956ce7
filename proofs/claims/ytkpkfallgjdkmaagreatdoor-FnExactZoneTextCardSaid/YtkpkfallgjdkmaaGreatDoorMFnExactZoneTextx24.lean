/- FnExactZoneText: part 25 of 30 of my texts for this claim, joined; the theorem stands in the last. Conditions: none beyond the statement's. -/
import Derived.Test.YtkpkfallgjdkmaaGreatDoorMFnExactZoneTextx3
import Derived.Test.YtkpkfallgjdkmaaGreatDoorMFnExactZoneTextx16
import Derived.Test.YtkpkfallgjdkmaaGreatDoorMFnExactZoneTextx23
import Derived.Test.YtkpkfallgjdkmaaGreatDoorMFnExactZoneTextx4
import Derived.Test.YtkpkfallgjdkmaaGreatDoorMFnExactZoneTextx19
import Derived.Test.YtkpkfallgjdkmaaGreatDoorMFnExactZoneTextx17
import Derived.Test.YtkpkfallgjdkmaaGreatDoorMFnExactZoneTextx21
import Derived.Test.YtkpkfallgjdkmaaGreatDoorMFnExactZoneTextx8
import Derived.Test.YtkpkfallgjdkmaaGreatDoorMFnExactZoneTextx9
import Derived.Test.YtkpkfallgjdkmaaGreatDoorMFnExactZoneTextx14
import Derived.Lib.ItoaLen
namespace Go.Proofs.YtkpkfallgjdkmaaGreatDoor.P
open Go.RowKit Go.Proofs.YtkpkfallgjdkmaaGreatDoorW.PrintWords Go.Proofs.YtkpkfallgjdkmaaGreatDoorW.PrintLast Go.Proofs.YtkpkfallgjdkmaaGreatDoorW.PrintMore
attribute [local go_sem] max2_int min2_int max_two min_two max_three min_three max_four min_four
set_option linter.unusedVariables false
set_option linter.unusedSimpArgs false
def impl_isWhole.f (k : Nat) (a0 : ByteArray) (l1 : List (S72)) : Option (Bool) := (impl_isApex.f a0).bind fun t601 => (if t601 = true then (if (l1.length : Int) ≤ 40 then ((impl_areRising.f k l1).bind fun t602 => (some t602)) else (some false)) else (some false))
set_option maxHeartbeats 8000000 in
set_option maxRecDepth 100000 in
theorem impl_isWhole.calls (k : Nat) (a0 : ByteArray) (A1 : Option Addr) (c1 : Nat) (l1 : List (S72)) (r : Bool) (w : World) (hr1 : Kd.C k72 w A1 l1.length l1) (hc1 : l1.length ≤ c1) (h : impl_isWhole.f k a0 l1 = some r) (hv_ : Vars w := by exact vv_) :
 Calls Tryz.prog 58 #[.string a0, .slice A1 l1.length c1] w fun e w' => e = .returned (.bool r) ∧ Below w.heap.size w w' := by
 have HV_ := a0_ hv_
 clear hv_
 have HR1 := a0_ hr1
 have HC1 := a0_ hc1
 clear hr1 hc1
 have HB := a0_ (Below.refl w.heap.size w)
 have H : ((impl_isApex.f a0).bind fun t601 => (if t601 = true then (if (l1.length : Int) ≤ 40 then ((impl_areRising.f k l1).bind fun t602 => (some t602)) else (some false)) else (some false))) = some r := h
 clear h
 obtain ⟨t601, A30, H⟩ := Option.bind_eq_some_iff.mp H
 have A3 := a0_ A30
 clear A30
 by_cases c4 : t601 = true
 case neg =>
  replace c4 := Bool.eq_false_iff.mpr c4
  subst c4
  rw [if_neg (show ¬ (false = true) by decide)] at H
  obtain rfl := Option.some.inj H
  go_enter Tryz.func58, Tryz.ntmps58
  go_wp2_with (first | ((with_reducible refine gate_callee (f := 87) rfl ?_); refine goesL_ (some 6) rfl rfl Tryz.func87 (by kernel_rfl) rfl #[.string a0] rfl argsS_ ?_; (with_reducible refine (impl_isApex.calls a0 false _ A3.out).mono ?_); rintro e w10 ⟨rfl, hb⟩; refine ⟨_, rfl, ?_⟩; replace HB := a0_ (below_step bq0_ hb); (try clear hb); (try clear hb2); (try clear hk); (try clear hi)))
  go_ret
  exact ⟨rr_, bq0_⟩
 subst c4
 rw [if_pos rfl] at H
 by_cases c5 : (l1.length : Int) ≤ 40
 case neg =>
  rw [if_neg c5] at H
  have c5b0 := decide_eq_false c5
  have c5b1 : decide (l1.length ≤ 40) = false := decide_eq_false (by omega)
  clear c5
  obtain rfl := Option.some.inj H
  go_enter Tryz.func58, Tryz.ntmps58
  go_wp2_with (first | ((with_reducible refine gate_callee (f := 87) rfl ?_); refine goesL_ (some 6) rfl rfl Tryz.func87 (by kernel_rfl) rfl #[.string a0] rfl argsS_ ?_; (with_reducible refine (impl_isApex.calls a0 true _ A3.out).mono ?_); rintro e w9 ⟨rfl, hb⟩; refine ⟨_, rfl, ?_⟩; replace HB := a0_ (below_step bq0_ hb); (try clear hb); (try clear hb2); (try clear hk); (try clear hi)))
  go_ret
  exact ⟨rr_, bq0_⟩
 rw [if_pos c5] at H
 have c5b0 := decide_eq_true c5
 have c5b1 : decide (l1.length ≤ 40) = true := decide_eq_true (by omega)
 clear c5
 obtain ⟨t602, A60, H⟩ := Option.bind_eq_some_iff.mp H
 have A6 := a0_ A60
 clear A60
 obtain rfl := Option.some.inj H
 go_enter Tryz.func58, Tryz.ntmps58
 go_wp2_with (first | ((with_reducible refine gate_callee (f := 87) rfl ?_); refine goesL_ (some 6) rfl rfl Tryz.func87 (by kernel_rfl) rfl #[.string a0] rfl argsS_ ?_; (with_reducible refine (impl_isApex.calls a0 true _ A3.out).mono ?_); rintro e w7 ⟨rfl, hb⟩; refine ⟨_, rfl, ?_⟩; replace HB := a0_ (below_step bq0_ hb); (try clear hb); (try clear hb2); (try clear hk); (try clear hi)) | (go_at_call 88; (with_reducible refine (impl_areRising.calls k _ _ l1 t602 _ ?side1 ?side2 A6.out).mono ?_); (case side1 => exact kC_ HR1.out HB.out); (case side2 => exact HC1.out); rintro e w8 ⟨rfl, hb⟩; replace HB := a0_ (below_step bq0_ hb); (try clear hb); (try clear hb2); (try clear hk); (try clear hi)))
 go_ret
 exact ⟨rr_, bq0_⟩
end Go.Proofs.YtkpkfallgjdkmaaGreatDoor.P
namespace Go.Proofs.YtkpkfallgjdkmaaGreatDoor.Pure
open Go.RowKit Go.Proofs.YtkpkfallgjdkmaaGreatDoor.P Go.Proofs.YtkpkfallgjdkmaaGreatDoorW.PrintWords Go.Proofs.YtkpkfallgjdkmaaGreatDoorW.PrintLast Go.Proofs.YtkpkfallgjdkmaaGreatDoorW.PrintMore
set_option linter.unusedVariables false
set_option linter.unusedSimpArgs false
def cmpI (a b : Int) : Int := if a < b then -1 else (if b < a then 1 else 0)
theorem cmpI_eq (a b : Int) : cmp_Compare_int.f a b = some (cmpI a b) := by
 unfold cmp_Compare_int.f cmp_isNaN_int.f cmpI
 simp only [bne_self_eq_false, Option.bind_some, Bool.false_eq_true, if_false]
 by_cases h : a < b
 · rw [if_pos h, if_pos h]
 · rw [if_neg h, if_neg h]
   by_cases h2 : b < a
   · rw [if_pos h2, if_pos h2]
   · rw [if_neg h2, if_neg h2]
def or2 (a b : Int) : Int := if a = 0 then b else a
theorem or_two (a b : Int) : Ev (fun k => cmp_Or_int.f k [a, b]) (or2 a b) := by
 refine Ev.of (fun k => cmp_Or_int.mono _ _) (k := 3) ?_
 show cmp_Or_int.f 3 [a, b] = _
 unfold or2
 by_cases h : a = 0
 · by_cases h2 : b = 0
   · simp [cmp_Or_int.f, cmp_Or_int.l0, rd, wrap64, h, h2]
   · simp [cmp_Or_int.f, cmp_Or_int.l0, rd, wrap64, h, h2]
 · simp [cmp_Or_int.f, cmp_Or_int.l0, rd, wrap64, h]
theorem or_three (a b c : Int) : Ev (fun k => cmp_Or_int.f k [a, b, c]) (or2 a (or2 b c)) := by
 refine Ev.of (fun k => cmp_Or_int.mono _ _) (k := 4) ?_
 show cmp_Or_int.f 4 [a, b, c] = _
 unfold or2
 by_cases h : a = 0
 · by_cases h2 : b = 0
   · by_cases h3 : c = 0
     · simp [cmp_Or_int.f, cmp_Or_int.l0, rd, wrap64, h, h2, h3]
     · simp [cmp_Or_int.f, cmp_Or_int.l0, rd, wrap64, h, h2, h3]
   · simp [cmp_Or_int.f, cmp_Or_int.l0, rd, wrap64, h, h2]
 · simp [cmp_Or_int.f, cmp_Or_int.l0, rd, wrap64, h]
theorem cmpB_eq : ∀ x y : List UInt8, Lib.compareBytes x y = if x = y then 0 else (if Op.bytesLess x y = true then -1 else 1)
 | [], [] => by simp [Lib.compareBytes]
 | [], _ :: _ => by simp [Lib.compareBytes, Op.bytesLess]
 | _ :: _, [] => by simp [Lib.compareBytes, Op.bytesLess]
 | a :: x, b :: y => by
  have ih := cmpB_eq x y
  unfold Lib.compareBytes Op.bytesLess
  by_cases h1 : a < b
  · have h3 : ¬ a = b := by rintro rfl; rw [UInt8.lt_iff_toNat_lt] at h1; omega
    simp [h1, h3]
  · by_cases h2 : b < a
    · have h3 : ¬ a = b := by rintro rfl; rw [UInt8.lt_iff_toNat_lt] at h2; omega
      simp [h1, h2, h3]
    · have h3 : a = b := by rw [UInt8.lt_iff_toNat_lt] at h1 h2; apply UInt8.toNat_inj.1; omega
      subst h3
      simp [h1, ih]
/-- The order of good records; x: the bytes of the data. -/
def ordR (a : List UInt8) (b c : Int) (x : List UInt8) (a' : List UInt8) (b' c' : Int) (x' : List UInt8) : Int := or2 (or2 (ordL a a') (cmpI b b')) (or2 (Lib.compareBytes x x') (cmpI c c'))
/-- The bytes of good data. -/
theorem good_bytes (b : Int) (d : ByteArray) (a : ByteArray) (c : Int) (ha : a.size ≤ 1048576) (hd : d.size ≤ 1048576) (h : Ev (fun k => impl_GoodRecord.f k a b c d) true) : ∃ x : ByteArray, Ev (fun k => spec_l3Bytes.f k b d) (x, true) ∧ Ev (fun k => impl_DataBytes.f k b d) (x, true) := by
 obtain ⟨r, q, r1, r2, q1, q2, hr, hs⟩ := goodrec_both a b c d ha hd
 have e := Ev.unique h r2
 subst e
 have hr := hr.symm
 rw [Bool.and_eq_true] at hr
 obtain ⟨x, y⟩ := q
 obtain rfl : y = true := hr.1
 exact ⟨x, q1, q2⟩
theorem implOrd_ev (a : ByteArray) (b c : Int) (d : ByteArray) (a' : ByteArray) (b' c' : Int) (d' x x' : ByteArray) (ha : a.size ≤ 1048576) (ha' : a'.size ≤ 1048576) (hx : Ev (fun k => impl_DataBytes.f k b d) (x, true)) (hx' : Ev (fun k => impl_DataBytes.f k b' d') (x', true)) :
 Ev (fun k => impl_compareRecords.f k a b c d a' b' c' d') (ordR a.data.toList b c x.data.toList a'.data.toList b' c' x'.data.toList) := by
 have hk : Ev (fun k => impl_compareKeys.f k a b c d a' b' c' d') (or2 (ordL a.data.toList a'.data.toList) (cmpI b b')) := by
  refine Ev.congr (fun k => rfl) (Ev.bind (implComp_ev a a' ha ha') ?_)
  simp only [cmpI_eq, Option.bind_some]
  exact Ev.bind (or_two _ _) (Ev.now _)
 have hd : ∀ {b : Int} {d x : ByteArray}, Ev (fun k => impl_DataBytes.f k b d) (x, true) → Ev (fun k => impl_dataBytes.f k b d) x := fun h => Ev.congr (fun k => rfl) (Ev.bind h (Ev.now _))
 refine Ev.congr (fun k => rfl) (Ev.bind hk (Ev.bind (hd hx) (Ev.bind (hd hx') ?_)))
 unfold strings_Compare.f
 simp only [cmpI_eq, Option.bind_some]
 exact Ev.bind (or_three _ _ _) (Ev.now _)
theorem less_eq (p : Bool) : spec_l3Less.f p = some (if p = true then -1 else 1) := by
 unfold spec_l3Less.f
 cases p <;> rfl
theorem cmpI_ne {a b : Int} (h : ¬ a = b) : cmpI a b = if decide (a < b) = true then -1 else 1 := by
 unfold cmpI
 by_cases h1 : a < b
 · rw [if_pos h1, if_pos (decide_eq_true h1)]
 · rw [if_neg h1, if_pos (by omega), if_neg (by simpa using h1)]
theorem cmpI_self (a : Int) : cmpI a a = 0 := by
 unfold cmpI
 rw [if_neg (by omega), if_neg (by omega)]
theorem specOrd_ev (a : ByteArray) (b c : Int) (d : ByteArray) (a' : ByteArray) (b' c' : Int) (d' x x' : ByteArray) (ha : a.size ≤ 1048576) (ha' : a'.size ≤ 1048576) (ga : goodL a.data.toList = true) (ga' : goodL a'.data.toList = true) (hx : Ev (fun k => spec_l3Bytes.f k b d) (x, true)) (hx' : Ev (fun k => spec_l3Bytes.f k b' d') (x', true)) :
 Ev (fun k => spec_l3Compare.f k a b c d a' b' c' d') (ordR a.data.toList b c x.data.toList a'.data.toList b' c' x'.data.toList) := by
 refine Ev.congr (fun k => rfl) (Ev.bind (specComp_ev a a' ha ha' ga ga') ?_)
 unfold ordR
 by_cases h0 : ordL a.data.toList a'.data.toList = 0
 · simp only [if_pos h0]
   refine Ev.bind hx (Ev.bind hx' ?_)
   simp only [less_eq, Option.bind_some]
   rw [h0]
   by_cases h1 : b = b'
   · subst h1
     simp only [if_true]
     rw [cmpI_self, cmpB_eq, Lib.toList_data, Lib.toList_data]
     by_cases h2 : x.data.toList = x'.data.toList
     · simp only [if_pos h2]
       by_cases h3 : c = c'
       · subst h3
         simp only [if_true]
         rw [cmpI_self]
         exact Ev.now _
       · simp only [if_neg h3]
         rw [cmpI_ne h3]
         exact Ev.now _
     · simp only [if_neg h2]
       by_cases h4 : Op.bytesLess x.data.toList x'.data.toList = true
       · simp only [if_pos h4]; exact Ev.now _
       · simp only [if_neg h4]; exact Ev.now _
   · simp only [if_neg h1]
     rw [cmpI_ne h1]
     by_cases h4 : decide (b < b') = true
     · simp only [if_pos h4]; exact Ev.now _
     · simp only [if_neg h4]; exact Ev.now _
 · simp only [if_neg h0]
   have e : ∀ y z : Int, or2 (or2 (ordL a.data.toList a'.data.toList) y) z = ordL a.data.toList a'.data.toList := fun y z => by
    unfold or2; rw [if_neg h0, if_neg h0]
   rw [e]
   exact Ev.now _
abbrev LRec := S71
abbrev IRec := S72
def conv (x : LRec) : IRec := ⟨x.f0, x.f1, x.f2, x.f3⟩
theorem rdL (l : List LRec) (i : Nat) (h : i < l.length) : rd_T71 l (i : Int) = l[i] := by
 unfold rd_T71
 rw [Int.toNat_natCast, List.getD_eq_getElem?_getD, List.getElem?_eq_getElem h, Option.getD_some]
theorem rdI (l : List IRec) (i : Nat) (h : i < l.length) : rd_T72 l (i : Int) = l[i] := by
 unfold rd_T72
 rw [Int.toNat_natCast, List.getD_eq_getElem?_getD, List.getElem?_eq_getElem h, Option.getD_some]
def Small (x : ByteArray) : Prop := x.size ≤ 1048576
theorem szRS_loop (l : List LRec) (hl : l.length < 1099511627776) (hs : ∀ y ∈ l, y.f0.size ≤ maxLen ∧ y.f3.size ≤ maxLen) : ∀ (m i : Nat) (left : Int), i + m = l.length → 0 ≤ left → left ≤ 1048576 →
 ∃ t, Ev (fun k => laws_szRecordS.l0 k l left (i : Int)) t ∧ (0 ≤ t → t ≤ left ∧ ∀ (j : Nat) (h : j < l.length), i ≤ j → l[j].f0.size ≤ 1048576 ∧ l[j].f3.size ≤ 1048576)
 | 0, i, left, hi, h0, h1 => by
  refine ⟨left, Ev.step (f := fun _ => some left) (fun k => ?_) (Ev.now _), fun _ => ⟨Int.le_refl _, fun j h hij => absurd h (by omega)⟩⟩
  show laws_szRecordS.l0 (k + 1) l left (i : Int) = _
  rw [laws_szRecordS.l0, if_neg (by omega)]
 | m + 1, i, left, hi, h0, h1 => by
  have hlt : i < l.length := by omega
  have hx := hs _ (List.getElem_mem hlt)
  obtain ⟨t, e, ht⟩ := szRecAt left h0 h1 l[i].f0 l[i].f1 l[i].f2 l[i].f3 hx.1 hx.2
  have hw : wrap64 ((i : Int) + 1) = ((i + 1 : Nat) : Int) := w64n (by omega)
  by_cases hn : t < 0
  · refine ⟨-1, Ev.step (f := fun _ => some (-1)) (fun k => ?_) (Ev.now _), fun h => absurd h (by omega)⟩
    show laws_szRecordS.l0 (k + 1) l left (i : Int) = _
    rw [laws_szRecordS.l0, if_pos (by omega), if_pos (by omega), rdL l i hlt, e, Option.bind_some, if_pos hn]
  · obtain ⟨g1, g2, g3⟩ := ht (by omega)
    obtain ⟨t', e', ht'⟩ := szRS_loop l hl hs m (i + 1) t (by omega) (by omega) (by omega)
    refine ⟨t', Ev.step (f := fun k => laws_szRecordS.l0 k l t ((i + 1 : Nat) : Int)) (fun k => ?_) e', fun h => ?_⟩
    · show laws_szRecordS.l0 (k + 1) l left (i : Int) = _
      rw [laws_szRecordS.l0, if_pos (by omega), if_pos (by omega), rdL l i hlt, e, Option.bind_some, if_neg hn, hw]
    · obtain ⟨q1, q2⟩ := ht' h
      refine ⟨by omega, fun j hj hij => ?_⟩
      by_cases c : j = i
      · subst c; exact ⟨g2, g3⟩
      · exact q2 j hj (by omega)
theorem szRS_ev (l : List LRec) (left : Int) (h0 : 0 ≤ left) (h1 : left ≤ 1048576) (hm : l.length ≤ maxLen) (hs : ∀ y ∈ l, y.f0.size ≤ maxLen ∧ y.f3.size ≤ maxLen) :
 ∃ t, Ev (fun k => laws_szRecordS.f k l left) t ∧ (0 ≤ t → t ≤ left ∧ l.length ≤ 1048576 ∧ ∀ y ∈ l, Small y.f0 ∧ Small y.f3) := by
 simp only [maxLen] at hm
 have hw : wrap64 (left - (l.length : Int)) = left - (l.length : Int) := by unfold wrap64; omega
 by_cases hn : left - (l.length : Int) < 0
 · refine ⟨-1, Ev.congr (f := fun _ => some (-1)) (fun k => ?_) (Ev.now _), fun h => absurd h (by omega)⟩
   unfold laws_szRecordS.f
   rw [hw, if_pos hn]
 · obtain ⟨t, e, ht⟩ := szRS_loop l (by omega) hs l.length 0 (left - (l.length : Int)) (by omega) (by omega) (by omega)
   refine ⟨t, Ev.congr (fun k => ?_) e, fun h => ?_⟩
   · unfold laws_szRecordS.f
     rw [hw, if_neg hn]
     rfl
   · obtain ⟨q1, q2⟩ := ht h
     refine ⟨by omega, by omega, fun y hy => ?_⟩
     obtain ⟨j, hj, rfl⟩ := List.mem_iff_getElem.1 hy
     exact q2 j hj (Nat.zero_le _)
theorem toRS_loop (l : List LRec) (hl : l.length < 1099511627776) : ∀ (m i : Nat) (out : List IRec), i + m = l.length → out = (l.take i).map conv ++ List.replicate m z72 → Ev (fun k => laws_toRecordS.l0 k l out (i : Int)) (l.map conv)
 | 0, i, out, hi, ho => by
  refine Ev.step (f := fun _ => some (l.map conv)) (fun k => ?_) (Ev.now _)
  show laws_toRecordS.l0 (k + 1) l out (i : Int) = _
  rw [laws_toRecordS.l0, if_neg (by omega), ho, List.take_of_length_le (by omega)]
  simp
 | m + 1, i, out, hi, ho => by
  have hlt : i < l.length := by omega
  have hw : wrap64 ((i : Int) + 1) = ((i + 1 : Nat) : Int) := w64n (by omega)
  have hlen : ((l.take i).map conv).length = i := by rw [List.length_map, List.length_take]; omega
  have ih := toRS_loop l hl m (i + 1) (out.set i (conv l[i])) (by omega) (by
   rw [ho, List.set_append_right _ _ (by omega), hlen, Nat.sub_self, List.take_succ_eq_append_getElem hlt, List.map_append, List.append_assoc]
   rfl)
  refine Ev.step (f := fun k => laws_toRecordS.l0 k l (out.set i (conv l[i])) ((i + 1 : Nat) : Int)) (fun k => ?_) ih
  show laws_toRecordS.l0 (k + 1) l out (i : Int) = _
  have ho2 : out.length = l.length := by rw [ho, List.length_append, hlen, List.length_replicate]; omega
  rw [laws_toRecordS.l0, if_pos (by omega), if_pos (by omega), rdL l i hlt]
  unfold laws_toRecord.f
  rw [Option.bind_some, if_pos (by omega), hw, Int.toNat_natCast]
  rfl
theorem toRS_ev (l : List LRec) (hl : l.length ≤ 1048576) : Ev (fun k => laws_toRecordS.f k l) (l.map conv) := by
 refine Ev.congr (fun k => ?_) (toRS_loop l (by omega) l.length 0 (List.replicate l.length z72) (by omega) (by simp))
 unfold laws_toRecordS.f
 rw [if_pos (by omega), Int.toNat_natCast, if_pos (by omega)]
 rfl
theorem eqRec_self (x : IRec) : laws_eqRecord.f x.f0 x.f1 x.f2 x.f3 x.f0 x.f1 x.f2 x.f3 = some true := by
 unfold laws_eqRecord.f
 simp
theorem eqRS_loop (l : List IRec) (hl : l.length < 1099511627776) : ∀ (m i : Nat), i + m = l.length → Ev (fun k => laws_eqRecordS.l0 k l l (i : Int)) true
 | 0, i, hi => by
  refine Ev.step (f := fun _ => some true) (fun k => ?_) (Ev.now _)
  show laws_eqRecordS.l0 (k + 1) l l (i : Int) = _
  rw [laws_eqRecordS.l0, if_neg (by omega)]
 | m + 1, i, hi => by
  have hlt : i < l.length := by omega
  have hw : wrap64 ((i : Int) + 1) = ((i + 1 : Nat) : Int) := w64n (by omega)
  refine Ev.step (f := fun k => laws_eqRecordS.l0 k l l ((i + 1 : Nat) : Int)) (fun k => ?_) (eqRS_loop l hl m (i + 1) (by omega))
  show laws_eqRecordS.l0 (k + 1) l l (i : Int) = _
  rw [laws_eqRecordS.l0, if_pos (by omega), if_pos (by omega), if_pos (by omega), eqRec_self, Option.bind_some, if_pos rfl, hw]
theorem eqRS_ev (l : List IRec) (hl : l.length ≤ 1048576) : Ev (fun k => laws_eqRecordS.f k l l) true := by
 refine Ev.congr (fun k => ?_) (eqRS_loop l (by omega) l.length 0 (by omega))
 unfold laws_eqRecordS.f
 rw [if_pos rfl]
 rfl
theorem small_conv {l : List LRec} (h : ∀ y ∈ l, Small y.f0 ∧ Small y.f3) : ∀ y ∈ l.map conv, Small y.f0 ∧ Small y.f3 := by
 intro y hy
 obtain ⟨x, hx, rfl⟩ := List.mem_map.1 hy
 exact h x hx
theorem num_one (n : Int) (h0 : 0 ≤ n) (h9 : n < 10) : strOfNums [(wrap64 (48 + n)) % 256] = mkB [UInt8.ofNat (48 + n.toNat)] := by
 have e : wrap64 (48 + n) % 256 = ((48 + n.toNat : Nat) : Int) := by unfold wrap64; omega
 rw [e]
 show strOfNums [((48 + n.toNat : Nat) : Int)] = mkB [UInt8.ofNat (((48 + n.toNat : Nat) : Int).toNat)]
 rfl
theorem mkB_app (p q : List UInt8) : mkB p ++ mkB q = mkB (p ++ q) := by
 apply ByteArray.ext
 simp [mkB, ByteArray.append]
theorem digits_len (u : Nat) (h : u < 9223372036854775807) : (Lib.decDigits u).length ≤ 21 := by
 have := Lib.itoa_length_le (u : Int) (by omega) (by omega)
 rwa [Lib.itoa_nonneg] at this
theorem num_ev : ∀ (n u : Nat), u ≤ n → u < 9223372036854775807 → Ev (fun k => spec_l1Num.f k (u : Int)) (mkB (Lib.decDigits u))
 | n, u, hn, hu => by
  by_cases h10 : u < 10
  · refine Ev.step (f := fun _ => some (mkB (Lib.decDigits u))) (fun k => ?_) (Ev.now _)
    show spec_l1Num.f (k + 1) (u : Int) = _
    unfold spec_l1Num.f
    rw [if_pos (by omega), num_one _ (by omega) (by omega), Lib.decDigits_one h10, Int.toNat_natCast]
  · cases n with
    | zero => omega
    | succ n =>
     have ih := num_ev n (u / 10) (by omega) (by omega)
     have hlen := digits_len (u / 10) (by omega)
     have e1 : wrap64 (Int.tdiv (u : Int) 10) = ((u / 10 : Nat) : Int) := by
      rw [Int.tdiv_eq_ediv_of_nonneg (by omega), show (u : Int) / 10 = ((u / 10 : Nat) : Int) by omega]
      unfold wrap64; omega
     have e2 : Int.tmod (u : Int) 10 = ((u % 10 : Nat) : Int) := by
      rw [Int.tmod_eq_emod_of_nonneg (by omega)]
      omega
     rw [← e1] at ih
     refine Ev.step (f := fun k => (spec_l1Num.f k (wrap64 (Int.tdiv u 10))).bind fun t285 => ((some (([(wrap64 (48 + (Int.tmod u 10))) % 256] : List Int) : List Int)).bind fun y286 => (if t285.size + (strOfNums y286).size ≤ 9223372036854775807 then (some (t285 ++ (strOfNums y286))) else (none)))) (fun k => ?_) (Ev.bind ih ?_)
     · show spec_l1Num.f (k + 1) (u : Int) = _
       rw [spec_l1Num.f, if_neg (by omega)]
     · simp only [Option.bind_some]
       rw [e2, num_one _ (by omega) (by omega), Int.toNat_natCast, mkB_size, mkB_size]
       simp only [if_pos (show (Lib.decDigits (u / 10)).length + [UInt8.ofNat (48 + u % 10)].length ≤ 9223372036854775807 by simp only [List.length_cons, List.length_nil]; omega)]
       rw [mkB_app, show Lib.decDigits (u / 10) ++ [UInt8.ofNat (48 + u % 10)] = Lib.decDigits u by rw [Lib.decDigits.eq_1 u, dif_neg h10]]
       exact Ev.now _
def toldB (a : ByteArray) : ByteArray := if a.toList = ([] : List UInt8) then (⟨#[46]⟩ : ByteArray) else a
def itB (n : Int) : ByteArray := mkB (Lib.decDigits n.toNat)
def rtext (a : ByteArray) (b c : Int) (d : ByteArray) : ByteArray := (((((toldB a ++ (⟨#[32]⟩ : ByteArray)) ++ itB c) ++ (⟨#[32]⟩ : ByteArray)) ++ itB b) ++ (⟨#[32]⟩ : ByteArray)) ++ d
theorem told_size (a : ByteArray) : (toldB a).size ≤ a.size + 1 := by
 unfold toldB
 split
 · show 1 ≤ a.size + 1; omega
 · omega
theorem itB_size (n : Int) (h0 : 0 ≤ n) (h1 : n < 9223372036854775807) : (itB n).size ≤ 21 := by
 unfold itB
 rw [mkB_size]
 exact digits_len _ (by omega)
theorem sp1 : (⟨#[32]⟩ : ByteArray).size = 1 := rfl
theorem rtext_impl (a : ByteArray) (b c : Int) (d : ByteArray) (ha : a.size ≤ 1048576) (hd : d.size ≤ 1048576) (hb : 0 ≤ b ∧ b < 9223372036854775807) (hc : 0 ≤ c ∧ c < 9223372036854775807) : impl_recordText.f a b c d = some (rtext a b c d) := by
 have hi : ∀ n : Int, 0 ≤ n ∧ n < 9223372036854775807 → strconv_Itoa.f n = some (itB n) := fun n hn => by
  unfold strconv_Itoa.f itB Lib.itoa
  rw [if_pos (by omega), if_neg (by omega)]
  rfl
 have t1 := told_size a
 have t2 := itB_size b hb.1 hb.2
 have t3 := itB_size c hc.1 hc.2
 unfold impl_recordText.f impl_told.f
 rw [show (if a.toList = ([] : List UInt8) then some (⟨#[46]⟩ : ByteArray) else some a) = some (toldB a) by unfold toldB; split <;> rfl, hi c hc, hi b hb]
 simp only [Option.bind_some, ByteArray.size_append, sp1]
 rw [if_pos (by omega), if_pos (by omega), if_pos (by omega), if_pos (by omega), if_pos (by omega), if_pos (by omega)]
 rfl
theorem rtext_spec (a : ByteArray) (b c : Int) (d : ByteArray) (ha : a.size ≤ 1048576) (hd : d.size ≤ 1048576) (hb : 0 ≤ b ∧ b < 9223372036854775807) (hc : 0 ≤ c ∧ c < 9223372036854775807) : Ev (fun k => spec_l3Text.f k a b c d) (rtext a b c d) := by
 have hi : ∀ n : Int, 0 ≤ n ∧ n < 9223372036854775807 → Ev (fun k => spec_l1Num.f k n) (itB n) := fun n hn => by
  have := num_ev n.toNat n.toNat (Nat.le_refl _) (by omega)
  rwa [show ((n.toNat : Nat) : Int) = n by omega] at this
 have t1 := told_size a
 have t2 := itB_size b hb.1 hb.2
 have t3 := itB_size c hc.1 hc.2
 have key : ∀ x : ByteArray, x.size ≤ 1048577 → Ev (fun k => if x.size + 1 ≤ 9223372036854775807 then ((spec_l1Num.f k c).bind fun t292 => (if (x ++ (⟨#[32]⟩ : ByteArray)).size + t292.size ≤ 9223372036854775807 then (if ((x ++ (⟨#[32]⟩ : ByteArray)) ++ t292).size + 1 ≤ 9223372036854775807 then ((spec_l1Num.f k b).bind fun t293 => (if (((x ++ (⟨#[32]⟩ : ByteArray)) ++ t292) ++ (⟨#[32]⟩ : ByteArray)).size + t293.size ≤ 9223372036854775807 then (if ((((x ++ (⟨#[32]⟩ : ByteArray)) ++ t292) ++ (⟨#[32]⟩ : ByteArray)) ++ t293).size + 1 ≤ 9223372036854775807 then (if (((((x ++ (⟨#[32]⟩ : ByteArray)) ++ t292) ++ (⟨#[32]⟩ : ByteArray)) ++ t293) ++ (⟨#[32]⟩ : ByteArray)).size + d.size ≤ 9223372036854775807 then (some ((((((x ++ (⟨#[32]⟩ : ByteArray)) ++ t292) ++ (⟨#[32]⟩ : ByteArray)) ++ t293) ++ (⟨#[32]⟩ : ByteArray)) ++ d)) else (none)) else (none)) else (none))) else (none)) else (none))) else (none)) ((((((x ++ (⟨#[32]⟩ : ByteArray)) ++ itB c) ++ (⟨#[32]⟩ : ByteArray)) ++ itB b) ++ (⟨#[32]⟩ : ByteArray)) ++ d) := by
  intro x hx
  simp only [if_pos (show x.size + 1 ≤ 9223372036854775807 by omega)]
  refine Ev.bind (hi c hc) ?_
  simp only [ByteArray.size_append, sp1, if_pos (show x.size + 1 + (itB c).size ≤ 9223372036854775807 by omega), if_pos (show x.size + 1 + (itB c).size + 1 ≤ 9223372036854775807 by omega)]
  refine Ev.bind (hi b hb) ?_
  simp only [if_pos (show x.size + 1 + (itB c).size + 1 + (itB b).size ≤ 9223372036854775807 by omega), if_pos (show x.size + 1 + (itB c).size + 1 + (itB b).size + 1 ≤ 9223372036854775807 by omega), if_pos (show x.size + 1 + (itB c).size + 1 + (itB b).size + 1 + d.size ≤ 9223372036854775807 by omega)]
  exact Ev.now _
 by_cases h : a.toList = ([] : List UInt8)
 · refine Ev.congr (fun k => ?_) (key (toldB a) (by omega))
   unfold spec_l3Text.f toldB
   rw [if_pos h, if_pos h]
   rfl
 · refine Ev.congr (fun k => ?_) (key (toldB a) (by omega))
   unfold spec_l3Text.f toldB
   rw [if_neg h, if_neg h]
end Go.Proofs.YtkpkfallgjdkmaaGreatDoor.Pure
