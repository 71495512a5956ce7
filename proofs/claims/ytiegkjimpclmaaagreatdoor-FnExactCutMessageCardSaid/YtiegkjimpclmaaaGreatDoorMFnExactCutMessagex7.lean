/- FnExactCutMessage: part 8 of 14 of my texts for this claim, joined; the theorem stands in the last. Conditions: none beyond the statement's. -/
import Derived.Test.YtiegkjimpclmaaaGreatDoorMFnExactCutMessagex6
import Derived.Lib.AtoiTie
import Derived.Lib.ItoaMem
open Go.RowKit Go.Proofs.YtiegkjimpclmaaaGreatDoorW.PrintWords Go.Proofs.YtiegkjimpclmaaaGreatDoorW.PrintLast Go.Proofs.YtiegkjimpclmaaaGreatDoorW.PrintMore
set_option linter.unusedVariables false
set_option linter.unusedSimpArgs false
set_option maxHeartbeats 8000000
set_option maxRecDepth 100000
namespace Go.Proofs.YtiegkjimpclmaaaGreatDoor.Pure
open Go.Proofs.YtiegkjimpclmaaaGreatDoor.P
def digB (b : UInt8) : Bool := decide (48 ≤ b.toNat ∧ b.toNat ≤ 57)
def valF (a : Nat) (l : List UInt8) : Nat := l.foldl (fun a b => a * 10 + (b.toNat - 48)) a
def valL (l : List UInt8) : Nat := valF 0 l
def canL (l : List UInt8) : Bool := decide (1 ≤ l.length ∧ l.length ≤ 10) && l.all digB && (decide (l.length = 1) || decide (l.head? ≠ some 48))
theorem valF_app (a : Nat) (p q : List UInt8) : valF a (p ++ q) = valF (valF a p) q := by unfold valF; rw [List.foldl_append]
theorem valF_one (a : Nat) (b : UInt8) : valF a [b] = a * 10 + (b.toNat - 48) := rfl
theorem decFrom_val : ∀ (l : List UInt8) (a : Nat), l.all digB = true → Lib.decFrom a l = some (valF a l)
 | [], a, _ => rfl
 | b :: r, a, h => by
  rw [List.all_cons, Bool.and_eq_true] at h
  have hb : 48 ≤ b.toNat ∧ b.toNat ≤ 57 := of_decide_eq_true h.1
  unfold Lib.decFrom Lib.digitVal
  rw [if_pos hb]
  exact decFrom_val r _ h.2
theorem valF_lt : ∀ (l : List UInt8) (a : Nat), l.all digB = true → valF a l < (a + 1) * 10 ^ l.length
 | [], a, _ => by show a < (a + 1) * 10 ^ 0; omega
 | b :: r, a, h => by
  rw [List.all_cons, Bool.and_eq_true] at h
  have hb : 48 ≤ b.toNat ∧ b.toNat ≤ 57 := of_decide_eq_true h.1
  have ih := valF_lt r (a * 10 + (b.toNat - 48)) h.2
  show valF (a * 10 + (b.toNat - 48)) r < _
  rw [List.length_cons, Nat.pow_succ]
  have h1 : (a * 10 + (b.toNat - 48) + 1) * 10 ^ r.length ≤ ((a + 1) * 10) * 10 ^ r.length := Nat.mul_le_mul_right _ (by omega)
  have h2 : ((a + 1) * 10) * 10 ^ r.length = (a + 1) * (10 ^ r.length * 10) := by rw [Nat.mul_assoc, Nat.mul_comm 10]
  omega
theorem digits_all : ∀ (n u : Nat), u ≤ n → (Lib.decDigits u).all digB = true ∧ valL (Lib.decDigits u) = u ∧ 1 ≤ (Lib.decDigits u).length ∧ (1 ≤ u → (Lib.decDigits u).head? ≠ some 48)
 | n, u, hu => by
  unfold Lib.decDigits
  by_cases h : u < 10
  · rw [dif_pos h]
    have hb : (UInt8.ofNat (48 + u)).toNat = 48 + u := by rw [UInt8.toNat_ofNat']; omega
    refine ⟨?_, ?_, by simp, fun h1 => ?_⟩
    · rw [List.all_cons, List.all_nil, Bool.and_true]; unfold digB; rw [hb]; exact decide_eq_true (by omega)
    · show 0 * 10 + ((UInt8.ofNat (48 + u)).toNat - 48) = u; rw [hb]; omega
    · intro e
      have e2 := congrArg UInt8.toNat (Option.some.inj e)
      rw [hb] at e2
      have : (48 : UInt8).toNat = 48 := rfl
      omega
  · rw [dif_neg h]
    match n, hu with
    | 0, hu => omega
    | n + 1, hu =>
     obtain ⟨g1, g2, g3, g4⟩ := digits_all n (u / 10) (by omega)
     have hb : (UInt8.ofNat (48 + u % 10)).toNat = 48 + u % 10 := by rw [UInt8.toNat_ofNat']; omega
     refine ⟨?_, ?_, by rw [List.length_append]; omega, fun _ => ?_⟩
     · rw [List.all_append, g1, Bool.true_and, List.all_cons, List.all_nil, Bool.and_true]; unfold digB; rw [hb]; exact decide_eq_true (by omega)
     · unfold valL at g2 ⊢; rw [valF_app, g2, valF_one, hb]; omega
     · have g5 := g4 (by omega)
       cases hd : Lib.decDigits (u / 10) with
       | nil => rw [hd] at g3; simp at g3
       | cons x r => rw [hd] at g5; simpa using g5
theorem digits_back : ∀ (n : Nat) (l : List UInt8), l.length ≤ n → l ≠ [] → l.all digB = true → (l.length = 1 ∨ l.head? ≠ some 48) → Lib.decDigits (valL l) = l
 | n, l, hn, hne, ha, hh => by
  rcases List.eq_nil_or_concat l with rfl | ⟨p, b, rfl⟩
  · exact absurd rfl hne
  · rw [List.concat_eq_append] at *
    rw [List.all_append, Bool.and_eq_true, List.all_cons, Bool.and_eq_true] at ha
    have hb : 48 ≤ b.toNat ∧ b.toNat ≤ 57 := of_decide_eq_true ha.2.1
    have hv : valL (p ++ [b]) = valL p * 10 + (b.toNat - 48) := by unfold valL; rw [valF_app, valF_one]
    have hbb : UInt8.ofNat (48 + (b.toNat - 48)) = b := by rw [show 48 + (b.toNat - 48) = b.toNat by omega]; exact UInt8.ofNat_toNat
    rw [hv]
    by_cases hp : p = []
    · subst hp
      unfold Lib.decDigits
      rw [show valL [] = 0 from rfl, dif_pos (by omega), Nat.zero_mul, Nat.zero_add, hbb]
      rfl
    · match n, hn with
      | 0, hn => simp at hn
      | n + 1, hn =>
       have hpl := List.length_pos_iff.2 hp
       have hhp : p.head? ≠ some 48 := by
        rcases hh with hh | hh
        · rw [List.length_append] at hh; simp at hh; exact absurd hh hp
        · cases p with
          | nil => exact absurd rfl hp
          | cons x r => simpa using hh
       have ih := digits_back n p (by simp at hn; omega) hp ha.1 (.inr hhp)
       have hpos : 1 ≤ valL p := by
        cases p with
        | nil => exact absurd rfl hp
        | cons x r =>
         rw [List.all_cons, Bool.and_eq_true] at ha
         have hx : 48 ≤ x.toNat ∧ x.toNat ≤ 57 := of_decide_eq_true ha.1.1
         have hx2 : x.toNat ≠ 48 := fun e => hhp (by show some x = some 48; rw [show x = 48 from UInt8.toNat_inj.1 e])
         have mono : ∀ (r : List UInt8) (a : Nat), a ≤ valF a r := by
          intro r
          induction r with
          | nil => intro a; exact Nat.le_refl _
          | cons y r ihr => intro a; have := ihr (a * 10 + (y.toNat - 48)); show a ≤ valF (a * 10 + (y.toNat - 48)) r; omega
         have := mono r (0 * 10 + (x.toNat - 48))
         show 1 ≤ valF (0 * 10 + (x.toNat - 48)) r
         omega
       unfold Lib.decDigits
       rw [dif_neg (by omega), show (valL p * 10 + (b.toNat - 48)) / 10 = valL p by omega, show (valL p * 10 + (b.toNat - 48)) % 10 = b.toNat - 48 by omega, ih, hbb]
theorem can_val {l : List UInt8} (h : canL l = true) : valL l < 10000000000 := by
 unfold canL at h
 simp only [Bool.and_eq_true, decide_eq_true_eq] at h
 have h1 := valF_lt l 0 h.1.2
 have h2 : 10 ^ l.length ≤ 10 ^ 10 := Nat.pow_le_pow_right (by omega) h.1.1.2
 unfold valL
 omega
theorem digits_many : ∀ (k u : Nat), k + 1 < Lib.nDigits u → 10 ^ (k + 1) ≤ u
 | 0, u, h => by
  by_cases hu : u < 10
  · rw [Lib.nDigits_small hu] at h; omega
  · omega
 | k + 1, u, h => by
  by_cases hu : u < 10
  · rw [Lib.nDigits_small hu] at h; omega
  · rw [Lib.nDigits_big hu] at h
    have ih := digits_many k (u / 10) (by omega)
    rw [Nat.pow_succ]
    omega
theorem number_eq (s : ByteArray) (most : Int) (hs : s.size ≤ 281474976710656) (h0 : 0 ≤ most) (h1 : most < 9999999999) : ∃ v, impl_numberIn.f s most = some (v, canL s.data.toList && decide ((valL s.data.toList : Int) ≤ most)) ∧ ((canL s.data.toList && decide ((valL s.data.toList : Int) ≤ most)) = true → v = (valL s.data.toList : Int)) := by
 unfold impl_numberIn.f
 rw [if_pos hs, Lib.toList_data]
 generalize hl : s.data.toList = l
 by_cases hc : canL l = true
 · have hc' := hc
   unfold canL at hc'
   simp only [Bool.and_eq_true, Bool.or_eq_true, decide_eq_true_eq] at hc'
   have hv := can_val hc
   have hne : l ≠ [] := by rintro rfl; simp at hc'
   have hat : Lib.atoiAll l = .ok (valL l : Int) := by
    rw [Lib.atoiAll_short l (by omega)]
    cases l with
    | nil => exact absurd rfl hne
    | cons b r =>
     have ha := hc'.1.2
     rw [List.all_cons, Bool.and_eq_true] at ha
     have hb : 48 ≤ b.toNat ∧ b.toNat ≤ 57 := of_decide_eq_true ha.1
     have n45 : (b == 45) = false := beq_eq_false_iff_ne.mpr fun e => by rw [e] at hb; have : (45 : UInt8).toNat = 45 := rfl; omega
     have n43 : (b == 43) = false := beq_eq_false_iff_ne.mpr fun e => by rw [e] at hb; have : (43 : UInt8).toNat = 43 := rfl; omega
     unfold Lib.atoi Lib.decNat
     show Lib.NumEnd.ofOption (if (b == 45) = true then _ else (if (b == 43) = true then _ else Option.map (fun (m : Nat) => (m : Int)) (if (b :: r).isEmpty = true then none else Lib.decFrom 0 (b :: r)))) = _
     rw [n45, n43, if_neg (by simp), if_neg (by simp), if_neg (by simp), decFrom_val _ 0 hc'.1.2]
     rfl
   have hit : Lib.itoa (valL l : Int) = l := by
    rw [Lib.itoa_nonneg]
    exact digits_back l.length l (Nat.le_refl _) hne hc'.1.2 hc'.2
   rw [hat]
   refine ⟨(valL l : Int), ?_, fun _ => rfl⟩
   simp only [hit, beq_self_eq_true, Bool.and_true, hc, Bool.true_and]
   congr 2
   rw [decide_eq_decide]
   omega
 · rw [Bool.eq_false_iff.mpr hc, Bool.false_and]
   cases ha : Lib.atoiAll l
   · next v =>
     refine ⟨v, ?_, fun h => by cases h⟩
     show some (v, decide (0 ≤ v ∧ v ≤ most) && (Lib.itoa v == l)) = some (v, false)
     congr 2
     rw [Bool.and_eq_false_iff]
     by_cases hv : 0 ≤ v ∧ v ≤ most
     · right
       rw [beq_eq_false_iff_ne]
       intro e
       apply hc
       obtain ⟨u, rfl⟩ : ∃ u : Nat, v = (u : Int) := ⟨v.toNat, by omega⟩
       rw [Lib.itoa_nonneg] at e
       obtain ⟨g1, g2, g3, g4⟩ := digits_all u u (Nat.le_refl _)
       have hlen : (Lib.decDigits u).length ≤ 10 := by
        rw [Lib.decDigits_length]
        by_cases h10 : u < 10
        · rw [Lib.nDigits_small h10]; omega
        · by_cases hbig : Lib.nDigits u ≤ 10
          · exact hbig
          · have := digits_many 9 u (by omega)
            omega
       rw [← e]
       unfold canL
       rw [g1, decide_eq_true (by omega), Bool.true_and, Bool.true_and, Bool.or_eq_true]
       by_cases hu : 1 ≤ u
       · exact .inr (decide_eq_true (g4 hu))
       · left
         obtain rfl : u = 0 := by omega
         rw [Lib.decDigits_one (by omega)]
         rfl
     · left
       exact decide_eq_false hv
   · exact ⟨0, rfl, fun h => by cases h⟩
   · exact ⟨_, rfl, fun h => by cases h⟩
def numS (l : List UInt8) : Int := if canL l = true then (valL l : Int) else -1
theorem int_loop (s : ByteArray) (hs : s.size ≤ 10) : ∀ (m i a : Nat), i + m = s.size → a = valL (s.data.toList.take i) → (s.data.toList.take i).all digB = true →
 Ev (fun k => spec_l1Int.l0 k s (a : Int) (i : Int)) (if s.data.toList.all digB = true then (valL s.data.toList : Int) else -1)
 | 0, i, a, him, ha, hd => by
  rw [List.take_of_length_le (by rw [← size_len]; omega)] at ha hd
  rw [if_pos hd, ← ha]
  refine Ev.step (f := fun _ => some (a : Int)) (fun k => ?_) (Ev.now _)
  show spec_l1Int.l0 (k + 1) s (a : Int) (i : Int) = _
  conv => lhs; unfold spec_l1Int.l0
  rw [if_neg (by omega)]
 | m + 1, i, a, him, ha, hd => by
  have hi : i < s.data.toList.length := by rw [← size_len]; omega
  have hbt := bt_list s i hi
  have htk : s.data.toList.take (i + 1) = s.data.toList.take i ++ [s.data.toList[i]] := by rw [List.take_add_one, List.getElem?_eq_getElem hi]; rfl
  have halt : a < 10 ^ 10 := by
   have := valF_lt _ 0 hd
   have h2 : 10 ^ (s.data.toList.take i).length ≤ 10 ^ 10 := Nat.pow_le_pow_right (by omega) (by rw [List.length_take]; omega)
   rw [ha]
   unfold valL
   omega
  by_cases hb : digB s.data.toList[i] = true
  · have hb' : 48 ≤ (s.data.toList[i]).toNat ∧ (s.data.toList[i]).toNat ≤ 57 := of_decide_eq_true hb
    have ih := int_loop s hs m (i + 1) (a * 10 + ((s.data.toList[i]).toNat - 48)) (by omega) (by rw [htk]; unfold valL at ha ⊢; rw [valF_app, ← ha, valF_one]) (by rw [htk, List.all_append, hd, Bool.true_and, List.all_cons, hb]; rfl)
    refine Ev.step (fun k => ?_) ih
    show spec_l1Int.l0 (k + 1) s (a : Int) (i : Int) = _
    conv => lhs; unfold spec_l1Int.l0
    have hw : wrap64 ((wrap64 (10 * (a : Int))) + ((((s.data.toList[i]).toNat : Int) - 48) % 256)) = ((a * 10 + ((s.data.toList[i]).toNat - 48) : Nat) : Int) := by
     have h1 : wrap64 (10 * (a : Int)) = 10 * (a : Int) := by unfold wrap64; omega
     rw [h1]
     unfold wrap64
     omega
    rw [if_pos (by omega), if_pos (by omega), hbt, if_neg (by omega), if_neg (by omega), hw, w64n (by omega)]
  · have hall : s.data.toList.all digB = false := by
     rw [List.all_eq_false]
     exact ⟨_, List.getElem_mem hi, hb⟩
    rw [hall, if_neg (by simp)]
    have hb' : ¬ (48 ≤ (s.data.toList[i]).toNat ∧ (s.data.toList[i]).toNat ≤ 57) := of_decide_eq_false (Bool.eq_false_iff.mpr hb)
    refine Ev.step (f := fun _ => some (-1)) (fun k => ?_) (Ev.now _)
    show spec_l1Int.l0 (k + 1) s (a : Int) (i : Int) = _
    conv => lhs; unfold spec_l1Int.l0
    rw [if_pos (by omega), if_pos (by omega), hbt]
    by_cases h1 : ((s.data.toList[i]).toNat : Int) < 48
    · rw [if_pos h1]
    · rw [if_neg h1, if_pos (by omega)]
theorem int_ev (s : ByteArray) (hs : s.size < 4611686018427387904) : Ev (fun k => spec_l1Int.f k s) (numS s.data.toList) := by
 have hj : Ev (fun k => spec_l1Int.j0 k s true) (-1) := Ev.step (f := fun _ => some (-1)) (fun k => rfl) (Ev.now _)
 have hin : spec_l1In.f (s.size : Int) 1 10 = some (decide (1 ≤ (s.size : Int) ∧ (s.size : Int) ≤ 10)) := within_spec _ _ _
 by_cases h1 : 1 ≤ (s.size : Int) ∧ (s.size : Int) ≤ 10
 · have hlen : 0 < s.data.toList.length := by rw [← size_len]; omega
   have hbt := bt_list s 0 hlen
   have hmain : ∀ ld : Bool, ld = decide (s.data.toList.head? = some 48 ∧ s.size > 1) → Ev (fun k => spec_l1Int.j0 k s ld) (numS s.data.toList) := by
    intro ld hld
    cases ld with
    | true =>
     have h2 := of_decide_eq_true hld.symm
     have : canL s.data.toList = false := by
      unfold canL
      rw [decide_eq_false (show ¬ s.data.toList.length = 1 by rw [← size_len]; omega), decide_eq_false (show ¬ s.data.toList.head? ≠ some 48 from fun h => h h2.1), Bool.or_false, Bool.and_false]
     unfold numS
     rw [this, if_neg (by simp)]
     exact hj
    | false =>
     have h2 := of_decide_eq_false hld.symm
     have hl := int_loop s (by omega) s.size 0 0 (by omega) rfl rfl
     have e : (if s.data.toList.all digB = true then (valL s.data.toList : Int) else -1) = numS s.data.toList := by
      unfold numS canL
      rw [decide_eq_true (show 1 ≤ s.data.toList.length ∧ s.data.toList.length ≤ 10 by rw [← size_len]; omega), Bool.true_and]
      have h3 : (decide (s.data.toList.length = 1) || decide (s.data.toList.head? ≠ some 48)) = true := by
       rw [Bool.or_eq_true]
       by_cases h4 : s.data.toList.head? = some 48
       · exact .inl (decide_eq_true (by rw [← size_len]; have : ¬ s.size > 1 := fun h5 => h2 ⟨h4, h5⟩; omega))
       · exact .inr (decide_eq_true h4)
      rw [h3, Bool.and_true]
     rw [← e]
     exact Ev.step (fun k => rfl) hl
   have hhead : s.data.toList.head? = some (s.data.toList[0]) := by rw [List.head?_eq_getElem?, List.getElem?_eq_getElem hlen]
   refine Ev.congr (f := fun k => spec_l1Int.j0 k s (decide (s.data.toList.head? = some 48 ∧ s.size > 1))) (fun k => ?_) (hmain _ rfl)
   unfold spec_l1Int.f
   rw [hin, Option.bind_some, decide_eq_true h1, if_pos rfl, if_pos (by omega)]
   have hb0 : bt s 0 = ((s.data.toList[0]).toNat : Int) := hbt
   rw [hb0, hhead]
   by_cases h48 : s.data.toList[0] = 48
   · rw [if_pos (by rw [h48]; rfl)]
     congr 1
     rw [decide_eq_decide]
     constructor
     · intro h; exact ⟨by rw [h48], by omega⟩
     · intro h; omega
   · rw [if_neg (fun h => h48 (UInt8.toNat_inj.1 (by have : (48 : UInt8).toNat = 48 := rfl; omega)))]
     congr 1
     rw [eq_comm, decide_eq_false_iff_not]
     rintro ⟨h, _⟩
     exact h48 (Option.some.inj h)
 · have : canL s.data.toList = false := by
    unfold canL
    rw [decide_eq_false (show ¬ (1 ≤ s.data.toList.length ∧ s.data.toList.length ≤ 10) by rw [← size_len]; omega)]
    rfl
   unfold numS
   rw [this, if_neg (by simp)]
   refine Ev.congr (fun k => ?_) hj
   unfold spec_l1Int.f
   rw [hin, Option.bind_some, decide_eq_false h1, if_neg (by simp)]
end Go.Proofs.YtiegkjimpclmaaaGreatDoor.Pure
namespace Go.Proofs.YtiegkjimpclmaaaGreatDoor.P
attribute [local go_sem] max2_int min2_int max_two min_two max_three min_three max_four min_four
def impl_GoodRecord.f (k : Nat) (a0_0 : ByteArray) (a0_1 : Int) (a0_2 : Int) (a0_3 : ByteArray) : Option (Bool) := (impl_GoodName.f a0_0).bind fun t398 => (if t398 = true then ((impl_within.f a0_2 0 100000).bind fun t399 => (if t399 = true then (if (a0_3.size : Int) > 100 then (some false) else ((impl_DataBytes.f k a0_1 a0_3).bind fun bt400 => (some bt400.2))) else (some false))) else (some false))
theorem impl_GoodRecord.calls (k : Nat) (a0_0 : ByteArray) (a0_1 : Int) (a0_2 : Int) (a0_3 : ByteArray) (r : Bool) (w : World) (h : impl_GoodRecord.f k a0_0 a0_1 a0_2 a0_3 = some r) (hv_ : Vars w := by exact vv_) :
 Calls Tryz.prog 29 #[.agg #[.string a0_0, .int .i64 a0_1, .int .i64 a0_2, .string a0_3]] w fun e w' => e = .returned (.bool r) ∧ Below w.heap.size w w' := by
 have HV_ := a0_ hv_
 clear hv_
 have hu45 := Tryz.underlying45
 have HB := a0_ (Below.refl w.heap.size w)
 have H := h
 clear h
 unfold impl_GoodRecord.f at H
 obtain ⟨t398, A2, H⟩ := ob_ H
 by_cases c3 : t398 = true
 case neg =>
  replace c3 := Bool.eq_false_iff.mpr c3
  subst c3
  rw [if_neg ff_] at H
  obtain rfl := Option.some.inj H
  go_enter Tryz.func29, Tryz.ntmps29
  go_wp2_with (first | ((with_reducible refine gate_dst (N := 1) rfl ?_); (try (refine gate_guard (by rfl) ?_; dsimp only)); refine boxS_ 1 #[.string a0_0, .int .i64 a0_1, .int .i64 a0_2, .string a0_3] 45 (fun gb397 hg w21 hbox hb => ?_); have BK397 := a0_ (hbox); have GW397 := a0_ (gw_ hg : w.heap.size ≤ gb397); replace HB := a0_ (below_step bq0_ hb); have GE397 := GW397; clear hb hbox hg; obtain ⟨_, _, _, _, _, _, _, _⟩ := bk4_ BK397.out) | ((with_reducible refine gt_ 83 rfl ?_); refine gs_ 7 Tryz.func83 #[.string a0_0] ?_; (with_reducible refine (impl_GoodName.calls a0_0 false _ A2.out).mono ?_); rintro e w23 ⟨rfl, hb⟩; refine ⟨_, rfl, ?_⟩; replace BK397 := a0_ (bkB_ BK397 hb); replace HB := a0_ (below_step bq1_ hb); clear hb))
  go_ret
  exact ⟨rr_, bq1_⟩
 subst c3
 rw [if_pos rfl] at H
 obtain ⟨t399, A4, H⟩ := ob_ H
 by_cases c5 : t399 = true
 case neg =>
  replace c5 := Bool.eq_false_iff.mpr c5
  subst c5
  rw [if_neg ff_] at H
  obtain rfl := Option.some.inj H
  go_enter Tryz.func29, Tryz.ntmps29
  go_wp2_with (first | ((with_reducible refine gate_dst (N := 1) rfl ?_); (try (refine gate_guard (by rfl) ?_; dsimp only)); refine boxS_ 1 #[.string a0_0, .int .i64 a0_1, .int .i64 a0_2, .string a0_3] 45 (fun gb397 hg w17 hbox hb => ?_); have BK397 := a0_ (hbox); have GW397 := a0_ (gw_ hg : w.heap.size ≤ gb397); replace HB := a0_ (below_step bq0_ hb); have GE397 := GW397; clear hb hbox hg; obtain ⟨_, _, _, _, _, _, _, _⟩ := bk4_ BK397.out) | ((with_reducible refine gt_ 83 rfl ?_); refine gs_ 7 Tryz.func83 #[.string a0_0] ?_; (with_reducible refine (impl_GoodName.calls a0_0 true _ A2.out).mono ?_); rintro e w19 ⟨rfl, hb⟩; refine ⟨_, rfl, ?_⟩; replace BK397 := a0_ (bkB_ BK397 hb); replace HB := a0_ (below_step bq1_ hb); clear hb; obtain ⟨_, _, _, _, _, _, _, _⟩ := bk4_ BK397.out) | (go_at_call 84; (with_reducible refine (impl_within.calls a0_2 0 100000 false _ A4.out).mono ?_); rintro e w' ⟨rfl, ⟨nd, rfl⟩⟩))
  go_ret
  exact ⟨rr_, bq1_⟩
 subst c5
 rw [if_pos rfl] at H
 by_cases c6 : (a0_3.size : Int) > 100
 case pos =>
  rw [if_pos c6] at H
  have c6b0 := decide_eq_true c6
  have c6b1 : decide (100 < a0_3.size) = true := decide_eq_true (by omega)
  clear c6
  obtain rfl := Option.some.inj H
  go_enter Tryz.func29, Tryz.ntmps29
  go_wp2_with (first | ((with_reducible refine gate_dst (N := 1) rfl ?_); (try (refine gate_guard (by rfl) ?_; dsimp only)); refine boxS_ 1 #[.string a0_0, .int .i64 a0_1, .int .i64 a0_2, .string a0_3] 45 (fun gb397 hg w7 hbox hb => ?_); have BK397 := a0_ (hbox); have GW397 := a0_ (gw_ hg : w.heap.size ≤ gb397); replace HB := a0_ (below_step bq0_ hb); have GE397 := GW397; clear hb hbox hg; obtain ⟨_, _, _, _, _, _, _, _⟩ := bk4_ BK397.out) | ((with_reducible refine gt_ 83 rfl ?_); refine gs_ 7 Tryz.func83 #[.string a0_0] ?_; (with_reducible refine (impl_GoodName.calls a0_0 true _ A2.out).mono ?_); rintro e w9 ⟨rfl, hb⟩; refine ⟨_, rfl, ?_⟩; replace BK397 := a0_ (bkB_ BK397 hb); replace HB := a0_ (below_step bq1_ hb); clear hb; obtain ⟨_, _, _, _, _, _, _, _⟩ := bk4_ BK397.out) | (go_at_call 84; (with_reducible refine (impl_within.calls a0_2 0 100000 true _ A4.out).mono ?_); rintro e w' ⟨rfl, ⟨nd, rfl⟩⟩))
  go_ret
  exact ⟨rr_, bq1_⟩
 rw [if_neg c6] at H
 have c6b0 := decide_eq_false c6
 have c6b1 : decide (100 < a0_3.size) = false := decide_eq_false (by omega)
 clear c6
 obtain ⟨⟨t400, t401⟩, A11, H⟩ := ob_ H
 obtain rfl := Option.some.inj H
 go_enter Tryz.func29, Tryz.ntmps29
 go_wp2_with (first | ((with_reducible refine gate_dst (N := 1) rfl ?_); (try (refine gate_guard (by rfl) ?_; dsimp only)); refine boxS_ 1 #[.string a0_0, .int .i64 a0_1, .int .i64 a0_2, .string a0_3] 45 (fun gb397 hg w12 hbox hb => ?_); have BK397 := a0_ (hbox); have GW397 := a0_ (gw_ hg : w.heap.size ≤ gb397); replace HB := a0_ (below_step bq0_ hb); have GE397 := GW397; clear hb hbox hg; obtain ⟨_, _, _, _, _, _, _, _⟩ := bk4_ BK397.out) | ((with_reducible refine gt_ 83 rfl ?_); refine gs_ 7 Tryz.func83 #[.string a0_0] ?_; (with_reducible refine (impl_GoodName.calls a0_0 true _ A2.out).mono ?_); rintro e w14 ⟨rfl, hb⟩; refine ⟨_, rfl, ?_⟩; replace BK397 := a0_ (bkB_ BK397 hb); replace HB := a0_ (below_step bq1_ hb); clear hb; obtain ⟨_, _, _, _, _, _, _, _⟩ := bk4_ BK397.out) | (go_at_call 84; (with_reducible refine (impl_within.calls a0_2 0 100000 true _ A4.out).mono ?_); rintro e w' ⟨rfl, ⟨nd, rfl⟩⟩) | ((with_reducible refine gt_ 31 rfl ?_); refine gs_ 26 Tryz.func31 #[.int .i64 a0_1, .string a0_3] ?_; (with_reducible refine (impl_DataBytes.calls k a0_1 a0_3 t400 t401 _ A11.out).mono ?_); rintro e w16 ⟨rfl, hb⟩; refine ⟨_, rfl, ?_⟩; replace BK397 := a0_ (bkB_ BK397 hb); replace HB := a0_ (below_step bq1_ hb); clear hb))
 go_ret
 exact ⟨rr_, bq1_⟩
def impl_dataBytes.f (k : Nat) (a0 : Int) (a1 : ByteArray) : Option (ByteArray) := (impl_DataBytes.f k a0 a1).bind fun bt402 => (if bt402.2 = true then (some bt402.1) else (some (⟨#[]⟩ : ByteArray)))
theorem impl_dataBytes.calls (k : Nat) (a0 : Int) (a1 : ByteArray) (r : ByteArray) (w : World) (h : impl_dataBytes.f k a0 a1 = some r) (hv_ : Vars w := by exact vv_) :
 Calls Tryz.prog 141 #[.int .i64 a0, .string a1] w fun e w' => e = .returned (.string r) ∧ Below w.heap.size w w' := by
 have HV_ := a0_ hv_
 clear hv_
 have HB := a0_ (Below.refl w.heap.size w)
 have H := h
 clear h
 unfold impl_dataBytes.f at H
 obtain ⟨⟨t402, t403⟩, A3, H⟩ := ob_ H
 by_cases c4 : t403 = true
 case pos =>
  subst c4
  rw [if_pos rfl] at H
  obtain rfl := Option.some.inj H
  go_enter Tryz.func141, Tryz.ntmps141
  go_wp2_with (first | ((with_reducible refine gt_ 31 rfl ?_); refine gs_ 10 Tryz.func31 #[.int .i64 a0, .string a1] ?_; (with_reducible refine (impl_DataBytes.calls k a0 a1 t402 true _ A3.out).mono ?_); rintro e w5 ⟨rfl, hb⟩; refine ⟨_, rfl, ?_⟩; replace HB := a0_ (below_step bq0_ hb); clear hb))
  go_ret
  exact ⟨rr_, bq0_⟩
 replace c4 := Bool.eq_false_iff.mpr c4
 subst c4
 rw [if_neg ff_] at H
 obtain rfl := Option.some.inj H
 go_enter Tryz.func141, Tryz.ntmps141
 go_wp2_with (first | ((with_reducible refine gt_ 31 rfl ?_); refine gs_ 10 Tryz.func31 #[.int .i64 a0, .string a1] ?_; (with_reducible refine (impl_DataBytes.calls k a0 a1 t402 false _ A3.out).mono ?_); rintro e w6 ⟨rfl, hb⟩; refine ⟨_, rfl, ?_⟩; replace HB := a0_ (below_step bq0_ hb); clear hb))
 go_ret
 exact ⟨rr_, bq0_⟩
def spec_l4Records.l0 : Nat → List (S45) → List (S45) → Int → Int → Option (Bool)
 | 0, _, _, _, _ => none
 | k + 1, x0, x5, x6, x7 => if x7 < x6 then (if 0 ≤ x7 then (if x7 < (x5.length : Int) then ((spec_GoodRecord.f k ((rd_T45 x5 x7).f0) ((rd_T45 x5 x7).f1) ((rd_T45 x5 x7).f2) ((rd_T45 x5 x7).f3)).bind fun t894 => (if t894 = true then (spec_l4Records.l0 k x0 x5 x6 (wrap64 (x7 + 1))) else (some false))) else (none)) else (none)) else (some (decide ((x0.length : Int) ≤ 12)))
def spec_l4Records.f (k : Nat) (l0 : List (S45)) : Option (Bool) := spec_l4Records.l0 k l0 l0 (l0.length : Int) 0
theorem spec_l4Records.calls (k : Nat) (A0 : Option Addr) (c0 : Nat) (l0 : List (S45)) (r : Bool) (w : World) (hr0 : Kd.C k45 w A0 l0.length l0) (hc0 : l0.length ≤ c0) (h : spec_l4Records.f k l0 = some r) :
 Calls Tryz.prog 158 #[.slice A0 l0.length c0] w fun e w' => e = .returned (.bool r) ∧ Below w.heap.size w w' := by
 have hu45 := Tryz.underlying45
 have HR0 := a0_ hr0
 have HC0 := a0_ hc0
 clear hr0 hc0
 have HB := a0_ (Below.refl w.heap.size w)
 have H := h
 clear h
 unfold spec_l4Records.f at H
 have H' := a0_ H
 clear H
 go_enter Tryz.func158, Tryz.ntmps158
 go_wp2
 go_loopg [7] k (fun kq v7 w' => ∃ (x7_1 : Int), v7 = .int .i64 x7_1 ∧ Aside0 (spec_l4Records.l0 kq l0 l0 (l0.length : Int) x7_1 = some r) ∧ Aside0 (kq ≤ k) ∧ Aside0 (Below w.heap.size w w'))
 case atStart => exact ⟨(0), rs_, H', ⟨Nat.le_refl _⟩, ⟨bq0_⟩⟩
 case round =>
  clear H'
  obtain ⟨x7_1, rfl, HA, HK1, HB⟩ := hrel
  cases gk with
  | zero => exact absurd HA.out (by simp [spec_l4Records.l0])
  | succ k1 =>
   have H := HA.out
   clear HA
   simp only [spec_l4Records.l0] at H
   by_cases c2 : x7_1 < (l0.length : Int)
   case neg =>
    rw [if_neg c2] at H
    have c2b0 := decide_eq_false c2
    clear c2
    obtain rfl := Option.some.inj H
    go_wp2
    go_ret
    exact ⟨rr_, bq0_⟩
   rw [if_pos c2] at H
   have c2b0 := decide_eq_true c2
   clear c2
   by_cases c3 : 0 ≤ x7_1
   case neg =>
    rw [if_neg c3] at H
    exact absurd H (by simp)
   rw [if_pos c3] at H
   have c3b0 := decide_eq_true c3
   clear c3
   by_cases c4 : x7_1 < (l0.length : Int)
   case neg =>
    rw [if_neg c4] at H
    exact absurd H (by simp)
   rw [if_pos c4] at H
   have c4b0 := decide_eq_true c4
   clear c4
   obtain ⟨t894, A5, H⟩ := ob_ H
   by_cases c6 : t894 = true
   case neg =>
    replace c6 := Bool.eq_false_iff.mpr c6
    subst c6
    rw [if_neg ff_] at H
    obtain rfl := Option.some.inj H
    have p892 := t0_ (x7_1)
    have q892 := tl_ (x7_1) (l0.length)
    obtain ⟨ad892, e892, -, -, -, -, hx892_0, hx892_1, hx892_2, hx892_3⟩ := rp_ HB (at_T45 HR0.out x7_1 (of_eq_true p892) (of_eq_true q892))
    cases e892
    go_wp2_with (first | ((with_reducible refine gate_dst (N := 4) rfl ?_); refine boxS_ 4 #[.string (⟨#[]⟩ : ByteArray), .int .i64 0, .int .i64 0, .string (⟨#[]⟩ : ByteArray)] 45 (fun gb893 hg w10 hbox hb => ?_); have BK893 := a0_ (hbox); have GW893 := a0_ (gw_ hg : w.heap.size ≤ gb893); replace HB := a0_ (below_step bq0_ hb); have GE893 := GW893; clear hb hbox hg; obtain ⟨_, _, _, _, _, _, _, _⟩ := bk4_ BK893.out) | ((with_reducible refine gt_ 61 rfl ?_); refine gs_ 12 Tryz.func61 #[.agg #[.string ((rd_T45 l0 x7_1).f0), .int .i64 ((rd_T45 l0 x7_1).f1), .int .i64 ((rd_T45 l0 x7_1).f2), .string ((rd_T45 l0 x7_1).f3)]] ?_; (with_reducible refine (spec_GoodRecord.calls k1 ((rd_T45 l0 x7_1).f0) ((rd_T45 l0 x7_1).f1) ((rd_T45 l0 x7_1).f2) ((rd_T45 l0 x7_1).f3) false _ A5.out).mono ?_); rintro e w12 ⟨rfl, hb⟩; refine ⟨_, rfl, ?_⟩; replace BK893 := a0_ (blk_below (g := gb893) (o := .cells #[.string ((rd_T45 l0 x7_1).f0), .int .i64 ((rd_T45 l0 x7_1).f1), .int .i64 ((rd_T45 l0 x7_1).f2), .string ((rd_T45 l0 x7_1).f3)] 45 (0, 0)) (put4_ BK893.out) hb); replace HB := a0_ (below_step bq1_ hb); clear hb))
    go_ret
    exact ⟨rr_, bq1_⟩
   subst c6
   rw [if_pos rfl] at H
   have H' := a0_ H
   clear H
   have p892 := t0_ (x7_1)
   have q892 := tl_ (x7_1) (l0.length)
   obtain ⟨ad892, e892, -, -, -, -, hx892_0, hx892_1, hx892_2, hx892_3⟩ := rp_ HB (at_T45 HR0.out x7_1 (of_eq_true p892) (of_eq_true q892))
   cases e892
   go_wp2_with (first | ((with_reducible refine gate_dst (N := 4) rfl ?_); refine boxS_ 4 #[.string (⟨#[]⟩ : ByteArray), .int .i64 0, .int .i64 0, .string (⟨#[]⟩ : ByteArray)] 45 (fun gb893 hg w7 hbox hb => ?_); have BK893 := a0_ (hbox); have GW893 := a0_ (gw_ hg : w.heap.size ≤ gb893); replace HB := a0_ (below_step bq0_ hb); have GE893 := GW893; clear hb hbox hg; obtain ⟨_, _, _, _, _, _, _, _⟩ := bk4_ BK893.out) | ((with_reducible refine gt_ 61 rfl ?_); refine gs_ 12 Tryz.func61 #[.agg #[.string ((rd_T45 l0 x7_1).f0), .int .i64 ((rd_T45 l0 x7_1).f1), .int .i64 ((rd_T45 l0 x7_1).f2), .string ((rd_T45 l0 x7_1).f3)]] ?_; (with_reducible refine (spec_GoodRecord.calls k1 ((rd_T45 l0 x7_1).f0) ((rd_T45 l0 x7_1).f1) ((rd_T45 l0 x7_1).f2) ((rd_T45 l0 x7_1).f3) true _ A5.out).mono ?_); rintro e w9 ⟨rfl, hb⟩; refine ⟨_, rfl, ?_⟩; replace BK893 := a0_ (blk_below (g := gb893) (o := .cells #[.string ((rd_T45 l0 x7_1).f0), .int .i64 ((rd_T45 l0 x7_1).f1), .int .i64 ((rd_T45 l0 x7_1).f2), .string ((rd_T45 l0 x7_1).f3)] 45 (0, 0)) (put4_ BK893.out) hb); replace HB := a0_ (below_step bq1_ hb); clear hb))
   go_roundg k1
   case measure => have := HK1.out; omega
   case rel => exact ⟨(wrap64 (x7_1 + 1)), rs_, H', jl_ HK1, ⟨bq1_⟩⟩
end Go.Proofs.YtiegkjimpclmaaaGreatDoor.P
namespace Go.Proofs.YtiegkjimpclmaaaGreatDoor.P
def lowB (b : UInt8) : UInt8 := if 65 ≤ b.toNat ∧ b.toNat ≤ 90 then b + 32 else b
def lowV (s : ByteArray) (j : Nat) : Int := ((lowB (s.data.toList.getD j 0)).toNat : Int)
def SmallAt (w : World) (g : Nat) (s : ByteArray) (kk : Nat) : Prop :=
 ∃ cs e fz, w.heap[g]? = some (.cells cs e fz) ∧ s.size ≤ fz.1 ∧ s.size ≤ cs.size ∧
  ∀ j, j < s.size → cs[j]? = some (.int .u8 (if j < kk then lowV s j else ((s.data.toList.getD j 0).toNat : Int)))
theorem SmallAt.cell {w : World} {g : Nat} {s : ByteArray} {kk : Nat} (h : SmallAt w g s kk) (j : Nat) (hj : j < s.size) : w.cell? ⟨g, j, none⟩ = some (.int .u8 (if j < kk then lowV s j else ((s.data.toList.getD j 0).toNat : Int))) := by
 obtain ⟨cs, e, fz, h1, h2, h3, h4⟩ := h
 simp [World.cell?, h1, h4 j hj]
theorem SmallAt.free {w : World} {g : Nat} {s : ByteArray} {kk : Nat} (h : SmallAt w g s kk) (j : Nat) (hj : j < s.size) : w.frozen? ⟨g, j, none⟩ = false := by
 obtain ⟨cs, e, fz, h1, h2, h3, h4⟩ := h
 obtain ⟨lo, hi⟩ := fz
 simp only [World.frozen?, h1, Bool.and_eq_false_iff, decide_eq_false_iff_not]
 left
 simp only at h2
 omega
theorem smallAt_start (w : World) (e : TypeId) (s : ByteArray) : SmallAt (Lib.bytesWorld w e s) w.heap.size s 0 := by
 have hcs : s.size ≤ (Lib.bytesCells w e s).size := by
  unfold Lib.bytesCells
  rw [Array.size_append, Array.size_map]
  show s.size ≤ s.size + _
  omega
 refine ⟨_, _, _, Lib.bytesWorld_at_new w e s, hcs, hcs, fun j hj => ?_⟩
 rw [if_neg (Nat.not_lt_zero _)]
 simp [Lib.bytesCells, Array.getElem?_append, List.getD, hj]
theorem low_skip {b : UInt8} (h : ¬ (65 ≤ b.toNat ∧ b.toNat ≤ 90)) : lowB b = b := by unfold lowB; rw [if_neg h]
theorem low_hit {b : UInt8} (h1 : 65 ≤ b.toNat) (h2 : b.toNat ≤ 90) : ((lowB b).toNat : Int) = (b.toNat : Int) + 32 := by
 unfold lowB
 rw [if_pos ⟨h1, h2⟩, UInt8.toNat_add]
 show (((b.toNat + 32) % 256 : Nat) : Int) = _
 omega
theorem SmallAt.skip {w : World} {g : Nat} {s : ByteArray} {kk : Nat} (h : SmallAt w g s kk) (hk : ¬ (65 ≤ (s.data.toList.getD kk 0).toNat ∧ (s.data.toList.getD kk 0).toNat ≤ 90)) : SmallAt w g s (kk + 1) := by
 obtain ⟨cs, e, fz, h1, h2, h3, h4⟩ := h
 refine ⟨cs, e, fz, h1, h2, h3, fun j hj => ?_⟩
 rw [h4 j hj]
 by_cases e1 : j < kk
 · rw [if_pos e1, if_pos (by omega)]
 · rw [if_neg e1]
   by_cases e2 : j = kk
   · subst e2
     rw [if_pos (by omega)]
     unfold lowV
     rw [low_skip hk]
   · rw [if_neg (by omega)]
theorem SmallAt.step {w : World} {g : Nat} {s : ByteArray} {kk : Nat} (h : SmallAt w g s kk) (hlt : kk < s.size) (v : Int) (hv : v = lowV s kk) : SmallAt (w.setCell ⟨g, kk, none⟩ (.int .u8 v)) g s (kk + 1) := by
 obtain ⟨cs, e, fz, h1, h2, h3, h4⟩ := h
 subst hv
 refine ⟨_, e, fz, by rw [setCell_eq_setRow w g kk cs e fz _ h1]; exact setRow_heap w g cs _ e fz h1, h2, by simpa using h3, fun j hj => ?_⟩
 rw [Array.getElem?_setIfInBounds]
 by_cases e2 : kk = j
 · subst e2
   rw [if_pos rfl, if_pos (by omega), if_pos (by omega)]
 · rw [if_neg e2, h4 j hj]
   by_cases e1 : j < kk
   · rw [if_pos e1, if_pos (by omega)]
   · rw [if_neg e1, if_neg (by omega)]
theorem SmallAt.below {w0 w : World} {g : Nat} {s : ByteArray} {kk : Nat} (h : SmallAt w g s kk) (hb : Below w0.heap.size w0 w) (hg : w0.heap.size ≤ g) (v : Value) : Below w0.heap.size w0 (w.setCell ⟨g, kk, none⟩ v) := by
 obtain ⟨cs, e, fz, h1, h2, h3, h4⟩ := h
 rw [setCell_eq_setRow w g kk cs e fz _ h1]
 exact ⟨hb.os, hb.tape, hb.output, by rw [setRow_size]; exact hb.size, fun k hk => by rw [setRow_other w g k _ (by omega)]; exact hb.block k hk⟩
def lowNums (s : ByteArray) : List Int := (List.range s.size).map (lowV s)
theorem SmallAt.reads {w : World} {g : Nat} {s : ByteArray} (h : SmallAt w g s s.size) (hs : s.size < 1099511627776) : ReadsInt w .u8 (some ⟨g, 0, none⟩) s.size (lowNums s) := by
 refine ⟨by simp [lowNums], by omega, fun _ => ⟨_, rfl, fun j hj => ?_⟩⟩
 have := h.cell j hj
 rw [if_pos hj] at this
 rw [add_plain, this]
 simp [lowNums, List.getD_eq_getElem?_getD, hj]
theorem lowNums_str (s : ByteArray) : strOfNums (lowNums s) = mkB (s.data.toList.map lowB) := by
 apply ext_data
 rw [strOfNums_data, mkB_data]
 apply List.ext_getElem?
 intro j
 unfold lowNums lowV
 simp only [List.getElem?_map, List.map_map]
 by_cases hj : j < s.size
 · have hj2 : j < s.data.toList.length := by rw [← size_len]; exact hj
   rw [List.getElem?_range hj, List.getElem?_eq_getElem hj2]
   simp [List.getD_eq_getElem?_getD, List.getElem?_eq_getElem hj2]
   rw [Array.getElem?_eq_getElem (show j < s.data.size from hj)]
   rfl
 · rw [List.getElem?_eq_none (by rw [List.length_range]; omega), List.getElem?_eq_none (by rw [← size_len]; omega)]
   rfl
theorem small_walk (s : ByteArray) (hs : s.size < 1099511627776) (w : World) :
 Calls Tryz.prog 176 #[.string s] w fun e w' => e = .returned (.string (mkB (s.data.toList.map lowB))) ∧ Below w.heap.size w w' := by
 have kb := fun W => print_bytes (P := Tryz.prog) 9 43 5 Tryz.underlying9 Tryz.underlying43 Tryz.underlying5 s W
 go_enter Tryz.func176, Tryz.ntmps176
 go_wp2
 go_loopg [4, 5, 10] s.size (fun gg _ _ v10 wr => ∃ kk : Nat, kk ≤ s.size ∧ s.size - kk ≤ gg ∧ v10 = .int .i64 kk ∧ Aside0 (Below w.heap.size w wr) ∧ Aside0 (SmallAt wr w.heap.size s kk))
 case atStart => exact ⟨0, Nat.zero_le _, by omega, rfl, ⟨Go.Proofs.YtiegkjimpclmaaaGreatDoorW.PrintWords.bytes_below (Below.refl _ w) (Nat.le_refl _) _ s⟩, ⟨smallAt_start w _ s⟩⟩
 case round =>
  obtain ⟨kk, hkk, hg, rfl, BW, SA⟩ := hrel
  by_cases hlt : kk < s.size
  · have hltz : (kk : Int) < (s.size : Int) := by omega
    have hc := SA.out.cell kk hlt
    rw [if_neg (by omega)] at hc
    have hf := SA.out.free kk hlt
    have HV := Aside0.mk (show lowV s kk = ((lowB (s.data.toList.getD kk 0)).toNat : Int) from rfl)
    have HS := Aside0.mk (fun h => SA.out.skip (kk := kk) h)
    generalize s.data.toList.getD kk 0 = b at hc HV HS
    have hbl : b.toNat < 256 := b.toNat_lt
    by_cases h65 : 65 ≤ b.toNat
    · have h65d : decide ((65 : Int) ≤ (b.toNat : Int)) = true := decide_eq_true (by omega)
      by_cases h90 : b.toNat ≤ 90
      · have h90d : decide ((b.toNat : Int) ≤ 90) = true := decide_eq_true (by omega)
        go_wp2
        go_roundg (s.size - (kk + 1))
        case measure => omega
        case rel => exact ⟨kk + 1, by omega, by omega, by go_num, ⟨SA.out.below BW.out (Nat.le_refl _) _⟩, ⟨SA.out.step hlt _ (by rw [HV.out, low_hit h65 h90]; omega)⟩⟩
      · have h90d : decide ((b.toNat : Int) ≤ 90) = false := decide_eq_false (by omega)
        go_wp2
        go_roundg (s.size - (kk + 1))
        case measure => omega
        case rel => exact ⟨kk + 1, by omega, by omega, by go_num, BW, ⟨HS.out (by omega)⟩⟩
    · have h65d : decide ((65 : Int) ≤ (b.toNat : Int)) = false := decide_eq_false (by omega)
      go_wp2
      go_roundg (s.size - (kk + 1))
      case measure => omega
      case rel => exact ⟨kk + 1, by omega, by omega, by go_num, BW, ⟨HS.out (by omega)⟩⟩
  · have hltz : ¬ (kk : Int) < (s.size : Int) := by omega
    obtain rfl : kk = s.size := by omega
    have hst := fun c => string_of_reads (P := Tryz.prog) (src := 43) (dst := 9) (c := c) Tryz.underlying43 Tryz.underlying5 Tryz.underlying9 (SA.out.reads hs)
    rw [lowNums_str] at hst
    go_wp2
    go_ret
    exact ⟨rfl, BW.out⟩
def impl_small.f (s : ByteArray) : Option ByteArray := if s.size < 1099511627776 then some (mkB (s.data.toList.map lowB)) else none
theorem impl_small.calls (a0 : ByteArray) (r : ByteArray) (w : World) (h : impl_small.f a0 = some r) :
 Calls Tryz.prog 176 #[.string a0] w fun e w' => e = .returned (.string r) ∧ Below w.heap.size w w' := by
 unfold impl_small.f at h
 by_cases hs : a0.size < 1099511627776
 · rw [if_pos hs] at h
   obtain rfl := Option.some.inj h
   exact small_walk a0 hs w
 · rw [if_neg hs] at h
   cases h
def foldR (s : ByteArray) : ByteArray × Bool := if s.size ≤ 60 then (if goodL (s.data.toList.map lowB) = true then (mkB (s.data.toList.map lowB), true) else ((⟨#[]⟩ : ByteArray), false)) else ((⟨#[]⟩ : ByteArray), false)
def spec_FoldName.f (s : ByteArray) : Option (ByteArray × Bool) := some (foldR s)
theorem foldGood_calls (t : ByteArray) (ht : t.size ≤ 60) (W : World) : Calls Tryz.prog 127 #[.string t] W fun e W' => e = .returned (.bool (goodL t.data.toList)) ∧ Below W.heap.size W W' := by
 obtain ⟨k, hk⟩ := (Pure.specGood_ev t (by omega)).rounds
 exact spec_GoodName.calls k t _ W hk
set_option maxHeartbeats 4000000 in
theorem spec_FoldName.calls (a0 : ByteArray) (r1 : ByteArray) (r2 : Bool) (w : World) (h : spec_FoldName.f a0 = some (r1, r2)) :
 Calls Tryz.prog 169 #[.string a0] w fun e w' => e = .returned (.tuple #[.string r1, .bool r2]) ∧ Below w.heap.size w w' := by
 have HR := Aside0.mk (Option.some.inj h)
 clear h
 unfold foldR at HR
 by_cases h60 : a0.size ≤ 60
 · have h60d : decide ((60 : Int) < (a0.size : Int)) = false := decide_eq_false (by omega)
   have h60e : decide (60 < a0.size) = false := decide_eq_false (by omega)
   rw [if_pos h60] at HR
   have hs : a0.size < 1099511627776 := by omega
   have HS60 := Aside0.mk h60
   clear h60
   have gc := fun W => foldGood_calls (mkB (a0.data.toList.map lowB)) (by rw [mkB_size, List.length_map, ← size_len]; exact HS60.out) W
   rw [mkB_data] at gc
   generalize goodL (a0.data.toList.map lowB) = gd at gc HR
   have kb := fun W => print_bytes (P := Tryz.prog) 9 43 5 Tryz.underlying9 Tryz.underlying43 Tryz.underlying5 a0 W
   go_enter Tryz.func169, Tryz.ntmps169
   go_wp2
   go_loopg [5, 6, 14] a0.size (fun gg _ _ v10 wr => ∃ kk : Nat, kk ≤ a0.size ∧ a0.size - kk ≤ gg ∧ v10 = .int .i64 kk ∧ Aside0 (Below w.heap.size w wr) ∧ Aside0 (SmallAt wr w.heap.size a0 kk))
   case atStart => exact ⟨0, Nat.zero_le _, by omega, rfl, ⟨Go.Proofs.YtiegkjimpclmaaaGreatDoorW.PrintWords.bytes_below (Below.refl _ w) (Nat.le_refl _) _ a0⟩, ⟨smallAt_start w _ a0⟩⟩
   case round =>
    obtain ⟨kk, hkk, hg, rfl, BW, SA⟩ := hrel
    by_cases hlt : kk < a0.size
    · clear gc
      have hltz : (kk : Int) < (a0.size : Int) := by omega
      have hc := SA.out.cell kk hlt
      rw [if_neg (by omega)] at hc
      have hf := SA.out.free kk hlt
      have HV := Aside0.mk (show lowV a0 kk = ((lowB (a0.data.toList.getD kk 0)).toNat : Int) from rfl)
      have HS := Aside0.mk (fun h => SA.out.skip (kk := kk) h)
      generalize a0.data.toList.getD kk 0 = b at hc HV HS
      have hbl : b.toNat < 256 := b.toNat_lt
      by_cases h65 : 65 ≤ b.toNat
      · have h65d : decide ((65 : Int) ≤ (b.toNat : Int)) = true := decide_eq_true (by omega)
        by_cases h90 : b.toNat ≤ 90
        · have h90d : decide ((b.toNat : Int) ≤ 90) = true := decide_eq_true (by omega)
          go_wp2
          go_roundg (a0.size - (kk + 1))
          case measure => omega
          case rel => exact ⟨kk + 1, by omega, by omega, by go_num, ⟨SA.out.below BW.out (Nat.le_refl _) _⟩, ⟨SA.out.step hlt _ (by rw [HV.out, low_hit h65 h90])⟩⟩
        · have h90d : decide ((b.toNat : Int) ≤ 90) = false := decide_eq_false (by omega)
          go_wp2
          go_roundg (a0.size - (kk + 1))
          case measure => omega
          case rel => exact ⟨kk + 1, by omega, by omega, by go_num, BW, ⟨HS.out (by omega)⟩⟩
      · have h65d : decide ((65 : Int) ≤ (b.toNat : Int)) = false := decide_eq_false (by omega)
        go_wp2
        go_roundg (a0.size - (kk + 1))
        case measure => omega
        case rel => exact ⟨kk + 1, by omega, by omega, by go_num, BW, ⟨HS.out (by omega)⟩⟩
    · have hltz : ¬ (kk : Int) < (a0.size : Int) := by omega
      obtain rfl : kk = a0.size := by omega
      have hst := fun c => string_of_reads (P := Tryz.prog) (src := 43) (dst := 9) (c := c) Tryz.underlying43 Tryz.underlying5 Tryz.underlying9 (SA.out.reads hs)
      rw [lowNums_str] at hst
      have hst2 := Aside0.mk (fun W hb c => string_of_reads (P := Tryz.prog) (src := 43) (dst := 9) (c := c) Tryz.underlying43 Tryz.underlying5 Tryz.underlying9 ((SA.out.reads hs).below (w1 := W) hb))
      cases gd with
      | true =>
       obtain ⟨rfl, rfl⟩ := Prod.mk.inj HR.out
       clear HR
       go_wp2_with (first | (go_at_call 127; refine (gc _).mono ?_; rintro e w1 ⟨rfl, hb⟩; have hst3 := hst2.out w1 hb; rw [lowNums_str] at hst3))
       go_ret2
       exact ⟨rfl, below_then BW.out BW.out.size hb⟩
      | false =>
       obtain ⟨rfl, rfl⟩ := Prod.mk.inj HR.out
       clear HR
       go_wp2_with (first | (go_at_call 127; refine (gc _).mono ?_; rintro e w1 ⟨rfl, hb⟩; have hst3 := hst2.out w1 hb; rw [lowNums_str] at hst3))
       go_ret2
       exact ⟨rfl, below_then BW.out BW.out.size hb⟩
 · have h60d : decide ((60 : Int) < (a0.size : Int)) = true := decide_eq_true (by omega)
   have h60e : decide (60 < a0.size) = true := decide_eq_true (by omega)
   rw [if_neg h60] at HR
   obtain ⟨rfl, rfl⟩ := Prod.mk.inj HR.out
   clear HR
   go_enter Tryz.func169, Tryz.ntmps169
   go_wp2
   go_ret2
   exact ⟨rfl, Below.refl _ _⟩
end Go.Proofs.YtiegkjimpclmaaaGreatDoor.P
namespace Go.Proofs.YtiegkjimpclmaaaGreatDoor.Pure
open Go.Proofs.YtiegkjimpclmaaaGreatDoor.P
theorem nb_rd (l : List ByteArray) (i : Nat) (h : i < l.length) : rdOf ByteArray.empty l (i : Int) = l[i] := by
 unfold rdOf
 rw [Int.toNat_natCast, List.getD_eq_getElem?_getD, List.getElem?_eq_getElem h]
 rfl
theorem nb_loops (parts : List ByteArray) (hp : ∀ p ∈ parts, p.size ≤ 1000) (hl : parts.length ≤ 1000) : ∀ (m i : Nat) (acc : ByteArray), i + m = parts.length → acc.size + m * 1024 < 1099511627776 →
 ∃ r, Ev (fun k => impl_labelBytes.l0 k acc parts (parts.length : Int) (i : Int)) r ∧ Ev (fun k => spec_l2Bytes.l0 k acc parts (parts.length : Int) (i : Int)) (r ++ (⟨#[0]⟩ : ByteArray)) ∧ r.size = acc.size + ((parts.drop i).map fun p => 1 + p.size).sum ∧ r.size < 1099511627776
 | 0, i, acc, him, ha => by
  refine ⟨acc, Ev.step (f := fun _ => some acc) (fun k => ?_) (Ev.now _), Ev.step (f := fun _ => some (acc ++ (⟨#[0]⟩ : ByteArray))) (fun k => ?_) (Ev.now _), by rw [List.drop_of_length_le (by omega)]; rfl, by omega⟩
  · show impl_labelBytes.l0 (k + 1) acc parts (parts.length : Int) (i : Int) = _
    unfold impl_labelBytes.l0
    rw [if_neg (by omega)]
  · show spec_l2Bytes.l0 (k + 1) acc parts (parts.length : Int) (i : Int) = _
    unfold spec_l2Bytes.l0
    rw [if_neg (by omega), if_pos (by omega)]
 | m + 1, i, acc, him, ha => by
  have hi : i < parts.length := by omega
  have hs : ∀ v : Int, (strOfNums [v]).size = 1 := fun v => by rw [strOfNums_size]; rfl
  have hpi := hp _ (List.getElem_mem hi)
  obtain ⟨r, h1, h2, h3, h4⟩ := nb_loops parts hp hl m (i + 1) (acc ++ (strOfNums [((parts[i].size : Int)) % 256] ++ parts[i])) (by omega) (by
   rw [ByteArray.size_append, ByteArray.size_append, hs]; omega)
  refine ⟨r, Ev.step (fun k => ?_) h1, Ev.step (fun k => ?_) h2, ?_, h4⟩
  · show impl_labelBytes.l0 (k + 1) acc parts (parts.length : Int) (i : Int) = _
    conv => lhs; unfold impl_labelBytes.l0
    rw [if_pos (by omega), if_pos (by omega), if_pos (by omega), nb_rd _ _ hi, Option.bind_some, if_pos (by rw [hs]; omega), if_pos (by rw [ByteArray.size_append, hs]; omega), w64n (by omega)]
  · show spec_l2Bytes.l0 (k + 1) acc parts (parts.length : Int) (i : Int) = _
    conv => lhs; unfold spec_l2Bytes.l0
    rw [if_pos (by omega), if_pos (by omega), if_pos (by omega), nb_rd _ _ hi, Option.bind_some, if_pos (by rw [hs]; omega), if_pos (by rw [ByteArray.size_append, hs]; omega), w64n (by omega)]
  · rw [h3, ByteArray.size_append, ByteArray.size_append, hs, List.drop_eq_getElem_cons hi, List.map_cons, List.sum_cons]
    omega
theorem split_sum : ∀ l : List UInt8, ((splitL 46 l).map fun p => 1 + p.length).sum = l.length + 1
 | [] => rfl
 | x :: xs => by
  have ih := split_sum xs
  unfold splitL
  split
  · rw [List.map_cons, List.sum_cons, ih, List.length_cons, List.length_nil]
    omega
  · cases hs : splitL 46 xs with
    | nil => exact absurd hs (splitL_ne 46 xs)
    | cons p ps =>
     rw [hs, List.map_cons, List.sum_cons] at ih
     rw [List.map_cons, List.sum_cons, List.length_cons, List.length_cons]
     omega
theorem nb_both (s : ByteArray) (h : goodL s.data.toList = true) : ∃ r, Ev (fun k => impl_labelBytes.f k s) r ∧ Ev (fun k => spec_l2Bytes.f k s) (r ++ (⟨#[0]⟩ : ByteArray)) ∧ r.size = (if s.size = 0 then 0 else s.size + 1) := by
 have hg := good_size h
 have hss := size_len s
 obtain ⟨q, e1, e2, e3⟩ := labels_ev s (by omega)
 have e3 := e3 (e2.trans h)
 have hlen : (labelsL s.data.toList).length ≤ 61 := by
  unfold labelsL
  split
  · simp
  · have := splitL_len 46 s.data.toList; omega
 obtain ⟨r, h1, h2, h3, h4⟩ := nb_loops ((labelsL s.data.toList).map mkB) (by
  intro p hp
  obtain ⟨x, hx, rfl⟩ := List.mem_map.1 hp
  rw [mkB_size]
  unfold labelsL at hx
  split at hx
  · cases hx
  · have := splitL_part 46 _ x hx; omega) (by rw [List.length_map]; omega) _ 0 (⟨#[]⟩ : ByteArray) (Nat.zero_add _) (by rw [List.length_map]; show 0 + _ < _; omega)
 refine ⟨r, ?_, ?_, ?_⟩
 · refine Ev.congr (f := fun k => impl_labelBytes.l0 k (⟨#[]⟩ : ByteArray) ((labelsL s.data.toList).map mkB) (((labelsL s.data.toList).map mkB).length : Int) 0) (fun k => ?_) h1
   unfold impl_labelBytes.f
   rw [labelsOf_eq s (by omega)]
   rfl
 · refine Ev.congr (f := fun k => (spec_l1Labels.f k s).bind fun bt137 => (spec_l2Bytes.l0 k (⟨#[]⟩ : ByteArray) bt137.1 (bt137.1.length : Int) 0)) (fun k => rfl) (Ev.bind e1 ?_)
   rw [e3]
   exact h2
 · rw [h3, List.drop_zero, List.map_map]
   have e : ((fun p : ByteArray => 1 + p.size) ∘ mkB) = fun p => 1 + p.length := by funext p; show 1 + (mkB p).size = _; rw [mkB_size]
   rw [e]
   unfold labelsL
   by_cases h0 : s.data.toList = []
   · rw [if_pos h0, if_pos (by rw [hss, h0]; rfl)]; rfl
   · rw [if_neg h0, if_neg (by rw [hss]; have := List.length_pos_iff.2 h0; omega), split_sum, ← hss]
     show 0 + (s.size + 1) = _
     omega
theorem swap_ends (p m q : List ByteArray) (a b : ByteArray) : ((p ++ (a :: (m ++ [b])) ++ q).set p.length b).set (p.length + m.length + 1) a = (p ++ [b]) ++ m ++ (a :: q) := by
 have h1 : (p ++ (a :: (m ++ [b])) ++ q).set p.length b = p ++ b :: (m ++ b :: q) := by simp [List.set_append]
 have h2 : (p ++ b :: (m ++ b :: q)) = (p ++ b :: m) ++ b :: q := by simp
 have h3 : p.length + m.length + 1 = (p ++ b :: m).length := by simp; omega
 rw [h1, h2, h3, List.set_append_right _ _ (Nat.le_refl _), Nat.sub_self]
 simp
theorem get_first (p m q : List ByteArray) (a b : ByteArray) : rdOf ByteArray.empty (p ++ (a :: (m ++ [b])) ++ q) (p.length : Int) = a := by
 unfold rdOf
 simp [List.getD_eq_getElem?_getD]
theorem get_last (p m q : List ByteArray) (a b : ByteArray) : rdOf ByteArray.empty (p ++ (a :: (m ++ [b])) ++ q) ((p.length + m.length + 1 : Nat) : Int) = b := by
 have h2 : p ++ (a :: (m ++ [b])) ++ q = (p ++ a :: m) ++ b :: q := by simp
 have h3 : p.length + m.length + 1 = (p ++ a :: m).length := by simp; omega
 unfold rdOf
 rw [Int.toNat_natCast, h2, h3]
 simp [List.getD_eq_getElem?_getD]
theorem reverse_loop : ∀ (n : Nat) (p m q : List ByteArray), m.length ≤ n → p.length + m.length + q.length < 1099511627776 →
 Ev (fun k => slices_Reverse_string_string.l0 k (p ++ m ++ q) (p.length : Int) ((p.length : Int) + (m.length : Int) - 1)) (p ++ m.reverse ++ q)
 | n, p, [], q, hn, hb => by
  refine Ev.step (f := fun _ => some _) (fun k => ?_) (Ev.now _)
  show slices_Reverse_string_string.l0 (k + 1) (p ++ [] ++ q) (p.length : Int) ((p.length : Int) + (0 : Int) - 1) = _
  unfold slices_Reverse_string_string.l0
  rw [if_neg (by omega)]
  rfl
 | n, p, a :: t, q, hn, hb => by
  rcases List.eq_nil_or_concat t with rfl | ⟨m, b, rfl⟩
  · refine Ev.step (f := fun _ => some _) (fun k => ?_) (Ev.now _)
    show slices_Reverse_string_string.l0 (k + 1) (p ++ [a] ++ q) (p.length : Int) ((p.length : Int) + (1 : Int) - 1) = _
    unfold slices_Reverse_string_string.l0
    rw [if_neg (by omega)]
    rfl
  · rw [List.concat_eq_append] at hn hb ⊢
    have hl : (a :: (m ++ [b])).length = m.length + 2 := by simp
    rw [hl] at hn hb ⊢
    match n, hn with
    | n + 1, hn =>
     have ih := reverse_loop n (p ++ [b]) m (a :: q) (by omega) (by simp; omega)
     have e : p ++ (a :: (m ++ [b])).reverse ++ q = (p ++ [b]) ++ m.reverse ++ (a :: q) := by simp
     rw [e]
     refine Ev.step (fun k => ?_) ih
     show slices_Reverse_string_string.l0 (k + 1) (p ++ (a :: (m ++ [b])) ++ q) (p.length : Int) ((p.length : Int) + ((m.length + 2 : Nat) : Int) - 1) = _
     have hj : (p.length : Int) + ((m.length + 2 : Nat) : Int) - 1 = ((p.length + m.length + 1 : Nat) : Int) := by omega
     have hlen : (p ++ (a :: (m ++ [b])) ++ q).length = p.length + m.length + 2 + q.length := by simp; omega
     rw [hj]
     conv => lhs; unfold slices_Reverse_string_string.l0
     rw [hlen, if_pos (by omega), if_pos (by omega), if_pos (by omega), if_pos (by omega), if_pos (by omega), get_first, get_last, Int.toNat_natCast, Int.toNat_natCast, swap_ends]
     rw [w64n (by omega), show wrap64 (((p.length + m.length + 1 : Nat) : Int) - 1) = ((p.length + m.length : Nat) : Int) by unfold wrap64; omega]
     have e1 : (p ++ [b]).length = p.length + 1 := by simp
     rw [e1]
     congr 1
     omega
theorem reverse_ev (l : List ByteArray) (h : l.length < 1099511627776) : Ev (fun k => slices_Reverse_string_string.f k l) l.reverse := by
 have := reverse_loop l.length [] l [] (Nat.le_refl _) (by simpa using h)
 simp only [List.nil_append, List.append_nil, List.length_nil] at this
 refine Ev.congr (fun k => ?_) this
 unfold slices_Reverse_string_string.f
 congr 1
 unfold wrap64
 show _ = (0 : Int) + (l.length : Int) - 1
 omega
def cmpP (a b : ByteArray) : Int := if Op.bytesLess a.toList b.toList = true then -1 else (if Op.bytesLess b.toList a.toList = true then 1 else 0)
def cmpL : List ByteArray → List ByteArray → Int
 | [], [] => 0
 | [], _ :: _ => -1
 | _ :: _, [] => 1
 | a :: x, b :: y => if cmpP a b = 0 then cmpL x y else cmpP a b
theorem cmp_eq (a b : ByteArray) : cmp_Compare_string.f a b = some (cmpP a b) := by
 unfold cmp_Compare_string.f cmp_isNaN_string.f cmpP
 simp only [bne_self_eq_false, Option.bind_some]
 rw [if_neg (by simp), if_neg (by simp)]
 split
 · rfl
 · split <;> rfl
theorem rd_at (l : List ByteArray) (i : Nat) (h : i < l.length) : rdOf ByteArray.empty l (i : Int) = l[i] := by
 unfold rdOf
 rw [Int.toNat_natCast, List.getD_eq_getElem?_getD, List.getElem?_eq_getElem h]
 rfl
theorem compare_loop (x y : List ByteArray) (hx : x.length < 1099511627776) (hy : y.length < 1099511627776) : ∀ (m i : Nat), i + m = x.length → i ≤ y.length →
 Ev (fun k => slices_Compare_string_string.l0 k x y x (x.length : Int) (i : Int)) (cmpL (x.drop i) (y.drop i))
 | 0, i, h, hiy => by
  refine Ev.step (f := fun _ => some _) (fun k => ?_) (Ev.now _)
  show slices_Compare_string_string.l0 (k + 1) x y x (x.length : Int) (i : Int) = _
  unfold slices_Compare_string_string.l0
  rw [if_neg (by omega), List.drop_of_length_le (by omega)]
  by_cases hl : (x.length : Int) < (y.length : Int)
  · rw [if_pos hl, List.drop_eq_getElem_cons (show i < y.length by omega)]
    rfl
  · rw [if_neg hl, List.drop_of_length_le (by omega)]
    rfl
 | m + 1, i, h, hiy => by
  by_cases hl : (i : Int) ≥ (y.length : Int)
  · refine Ev.step (f := fun _ => some _) (fun k => ?_) (Ev.now _)
    show slices_Compare_string_string.l0 (k + 1) x y x (x.length : Int) (i : Int) = _
    unfold slices_Compare_string_string.l0
    rw [if_pos (by omega), if_pos (by omega), if_pos (by omega), if_pos hl, List.drop_of_length_le (show y.length ≤ i by omega), List.drop_eq_getElem_cons (show i < x.length by omega)]
    rfl
  · have ih := compare_loop x y hx hy m (i + 1) (by omega) (by omega)
    have hc : cmpL (x.drop i) (y.drop i) = if cmpP x[i] y[i] = 0 then cmpL (x.drop (i + 1)) (y.drop (i + 1)) else cmpP x[i] y[i] := by
     rw [List.drop_eq_getElem_cons (show i < x.length by omega), List.drop_eq_getElem_cons (show i < y.length by omega)]
     rfl
    refine Ev.step (f := fun k => if cmpP x[i] y[i] = 0 then slices_Compare_string_string.l0 k x y x (x.length : Int) ((i + 1 : Nat) : Int) else some (cmpP x[i] y[i])) (fun k => ?_) ?_
    · show slices_Compare_string_string.l0 (k + 1) x y x (x.length : Int) (i : Int) = _
      conv => lhs; unfold slices_Compare_string_string.l0
      rw [if_pos (by omega), if_pos (by omega), if_pos (by omega), if_neg hl, if_pos (by omega), rd_at x i (by omega), rd_at y i (by omega), cmp_eq, w64n (by omega)]
      rfl
    · rw [hc]
      by_cases h0 : cmpP x[i] y[i] = 0
      · simp only [if_pos h0]; exact ih
      · simp only [if_neg h0]; exact Ev.now _
theorem compare_ev (x y : List ByteArray) (hx : x.length < 1099511627776) (hy : y.length < 1099511627776) : Ev (fun k => slices_Compare_string_string.f k x y) (cmpL x y) := by
 have := compare_loop x y hx hy x.length 0 (by omega) (by omega)
 exact this
def ordL (a b : List UInt8) : Int := cmpL ((labelsL a).map mkB).reverse ((labelsL b).map mkB).reverse
theorem labs_len (s : ByteArray) (hs : s.size ≤ 1048576) : ((labelsL s.data.toList).map mkB).length ≤ 1048577 := by
 rw [List.length_map]
 unfold labelsL
 split
 · simp
 · have := splitL_len 46 s.data.toList; rw [← size_len] at this; omega
theorem implComp_ev (a b : ByteArray) (ha : a.size ≤ 1048576) (hb : b.size ≤ 1048576) : Ev (fun k => impl_compareNames.f k a b) (ordL a.data.toList b.data.toList) := by
 have h1 := labs_len a ha
 have h2 := labs_len b hb
 refine Ev.congr (f := fun k => (slices_Reverse_string_string.f k ((labelsL a.data.toList).map mkB)).bind fun t151 => (slices_Reverse_string_string.f k ((labelsL b.data.toList).map mkB)).bind fun t152 => (slices_Compare_string_string.f k t151 t152).bind fun t153 => some t153) (fun k => ?_) ?_
 · unfold impl_compareNames.f
   rw [labelsOf_eq a (by omega), labelsOf_eq b (by omega)]
   rfl
 · refine Ev.bind (reverse_ev _ (by omega)) (Ev.bind (reverse_ev _ (by omega)) (Ev.bind (compare_ev _ _ ?_ ?_) (Ev.now _)))
   · rw [List.length_reverse]; omega
   · rw [List.length_reverse]; omega
def parL : List UInt8 → List UInt8
 | [] => []
 | x :: xs => if x = 46 then xs else parL xs
theorem parL_len (l : List UInt8) : (parL l).length ≤ l.length - 1 := by
 induction l with
 | nil => simp [parL]
 | cons x xs ih =>
  unfold parL
  split
  · simp
  · simp at ih ⊢; omega
theorem parL_hit (p r : List UInt8) (h : ∀ x ∈ p, x ≠ 46) : parL (p ++ 46 :: r) = r := by
 induction p with
 | nil => simp [parL]
 | cons x xs ih => rw [List.cons_append, parL, if_neg (h x List.mem_cons_self), ih fun y hy => h y (List.mem_cons_of_mem _ hy)]
theorem parL_none (l : List UInt8) (h : ∀ x ∈ l, x ≠ 46) : parL l = [] := by
 induction l with
 | nil => rfl
 | cons x xs ih => rw [parL, if_neg (h x List.mem_cons_self), ih fun y hy => h y (List.mem_cons_of_mem _ hy)]
theorem parent_loop (s : ByteArray) (hs : s.size < 1099511627776) : ∀ (m i : Nat), i + m = s.size →
 spec_l1Parent.l0 (m + 1) s (i : Int) = some (mkB (parL (s.data.toList.drop i)))
 | 0, i, him => by
  unfold spec_l1Parent.l0
  rw [if_neg (by omega), List.drop_of_length_le (by rw [← size_len]; omega)]
  rfl
 | m + 1, i, him => by
  have hi : i < s.data.toList.length := by rw [← size_len]; omega
  unfold spec_l1Parent.l0
  rw [if_pos (by omega), if_pos (by omega), w64n (by omega), bt_list s i hi, List.drop_eq_getElem_cons hi]
  unfold parL
  by_cases h : s.data.toList[i] = 46
  · rw [if_pos (by rw [h]; rfl), if_pos h, if_pos (by omega), if_pos (by omega), Int.toNat_natCast, ext_end]
  · rw [if_neg (by intro e; apply h; apply UInt8.toNat_inj.1; simpa using Int.ofNat.inj e), if_neg h, parent_loop s hs m (i + 1) (by omega)]
theorem specParent_ev (s : ByteArray) (hs : s.size < 1099511627776) : Ev (fun k => spec_l1Parent.f k s) (mkB (parL s.data.toList)) := by
 refine Ev.of (fun k => spec_l1Parent.mono _ _) (k := s.size + 1) ?_
 unfold spec_l1Parent.f
 have := parent_loop s hs s.size 0 (by omega)
 simpa using this
theorem implParent_eq (s : ByteArray) (hs : s.size < 4611686018427387904) : impl_parentOf.f s = some (mkB (parL s.data.toList)) := by
 unfold impl_parentOf.f strings_Cut.f stringslite_Cut.f internal_stringslite_Index.f
 rw [if_pos (show (⟨#[46]⟩ : ByteArray).size = 1 from rfl)]
 simp only [Option.bind_some]
 rw [show List.headD (⟨#[46]⟩ : ByteArray).data.toList 0 = 46 from rfl, show (⟨#[46]⟩ : ByteArray).size = 1 from rfl]
 rcases place_or 46 s.data.toList with ⟨h1, h2⟩ | ⟨p, r, h1, h2, h3⟩
 · rw [h1, if_neg (by omega), parL_none _ h2]
   rfl
 · have hl : p.length + (r.length + 1) = s.size := by rw [size_len, h1]; simp
   rw [h3, show (((1 : Nat) : Int)) = 1 from rfl, w64n (by omega), if_pos (by omega), if_pos (by omega), if_pos (by omega), if_pos (by omega), if_pos (by omega), Int.toNat_natCast, Int.toNat_natCast, ext_end]
   simp only [Option.bind_some]
   have hd : s.data.toList.drop (p.length + 1) = r := by rw [h1, ← List.drop_drop, List.drop_left]; rfl
   rw [hd, h1, parL_hit p r h2]
end Go.Proofs.YtiegkjimpclmaaaGreatDoor.Pure
namespace Go.Proofs.YtiegkjimpclmaaaGreatDoor.P
attribute [local go_sem] max2_int min2_int max_two min_two max_three min_three max_four min_four
def impl_areRecords_1.f (k : Nat) (a0_0 : ByteArray) (a0_1 : Int) (a0_2 : Int) (a0_3 : ByteArray) : Option (Bool) := (impl_GoodRecord.f k a0_0 a0_1 a0_2 a0_3).bind fun t1468 => (some (!t1468))
theorem impl_areRecords_1.calls (k : Nat) (a0_0 : ByteArray) (a0_1 : Int) (a0_2 : Int) (a0_3 : ByteArray) (r : Bool) (w : World) (h : impl_areRecords_1.f k a0_0 a0_1 a0_2 a0_3 = some r) (hv_ : Vars w := by exact vv_) :
 Calls Tryz.prog 136 #[.agg #[.string a0_0, .int .i64 a0_1, .int .i64 a0_2, .string a0_3]] w fun e w' => e = .returned (.bool r) ∧ Below w.heap.size w w' := by
 have HV_ := a0_ hv_
 clear hv_
 have hu45 := Tryz.underlying45
 have HB := a0_ (Below.refl w.heap.size w)
 have H := h
 clear h
 unfold impl_areRecords_1.f at H
 obtain ⟨t1468, A2, H⟩ := ob_ H
 obtain rfl := Option.some.inj H
 go_enter Tryz.func136, Tryz.ntmps136
 go_wp2_with (first | ((with_reducible refine gate_dst (N := 1) rfl ?_); refine boxS_ 1 #[.string a0_0, .int .i64 a0_1, .int .i64 a0_2, .string a0_3] 45 (fun gb1467 hg w3 hbox hb => ?_); have BK1467 := a0_ (hbox); have GW1467 := a0_ (gw_ hg : w.heap.size ≤ gb1467); replace HB := a0_ (below_step bq0_ hb); have GE1467 := GW1467; clear hb hbox hg; obtain ⟨_, _, _, _, _, _, _, _⟩ := bk4_ BK1467.out) | ((with_reducible refine gt_ 29 rfl ?_); refine gs_ 4 Tryz.func29 #[.agg #[.string a0_0, .int .i64 a0_1, .int .i64 a0_2, .string a0_3]] ?_; (with_reducible refine (impl_GoodRecord.calls k a0_0 a0_1 a0_2 a0_3 t1468 _ A2.out).mono ?_); rintro e w5 ⟨rfl, hb⟩; refine ⟨_, rfl, ?_⟩; replace BK1467 := a0_ (bkB_ BK1467 hb); replace HB := a0_ (below_step bq1_ hb); clear hb))
 go_ret
 exact ⟨rr_, bq1_⟩
mutual
def impl_takeName.l0 : Nat → ByteArray → Int → List ByteArray → List Int → Int → Int → Option (ByteArray × List Int × Int × Bool)
 | 0, _, _, _, _, _, _ => none
 | k + 1, x0, x1, x8, x9, x10, x11 => if x1 < (x0.size : Int) then (impl_takeName.j1 k x0 x1 x8 x9 x10 x11 (decide ((x8.length : Int) ≤ 8))) else (impl_takeName.j1 k x0 x1 x8 x9 x10 x11 false)
def impl_takeName.j1 : Nat → ByteArray → Int → List ByteArray → List Int → Int → Int → Bool → Option (ByteArray × List Int × Int × Bool)
 | 0, _, _, _, _, _, _, _ => none
 | k + 1, x0, x1, x8, x9, x10, x11, x26 => if x26 = true then (if 0 ≤ x1 then (if x1 < (x0.size : Int) then (if (wrap64 (bt x0 x1)) = 0 then (if x11 < 0 then ((impl_NameOf.f x8).bind fun bt261 => (some (bt261.1, x9, wrap64 (x1 + 1), bt261.2))) else ((impl_NameOf.f x8).bind fun bt263 => (some (bt263.1, x9, x11, bt263.2)))) else (if (wrap64 (bt x0 x1)) ≥ 192 then (if (wrap64 (x1 + 1)) ≥ (x0.size : Int) then (some ((⟨#[]⟩ : ByteArray), ([] : List Int), 0, false)) else (if x11 < 0 then (if 0 ≤ (wrap64 (x1 + 1)) then (if (wrap64 (x1 + 1)) < (x0.size : Int) then (if (wrap64 ((wrap64 ((Int.tmod (wrap64 (bt x0 x1)) 64) * 256)) + (wrap64 (bt x0 (wrap64 (x1 + 1)))))) ≥ x10 then (some ((⟨#[]⟩ : ByteArray), ([] : List Int), 0, false)) else (impl_takeName.l0 k x0 (wrap64 ((wrap64 ((Int.tmod (wrap64 (bt x0 x1)) 64) * 256)) + (wrap64 (bt x0 (wrap64 (x1 + 1)))))) x8 x9 (wrap64 ((wrap64 ((Int.tmod (wrap64 (bt x0 x1)) 64) * 256)) + (wrap64 (bt x0 (wrap64 (x1 + 1)))))) (wrap64 (x1 + 2)))) else (none)) else (none)) else (if 0 ≤ (wrap64 (x1 + 1)) then (if (wrap64 (x1 + 1)) < (x0.size : Int) then (if (wrap64 ((wrap64 ((Int.tmod (wrap64 (bt x0 x1)) 64) * 256)) + (wrap64 (bt x0 (wrap64 (x1 + 1)))))) ≥ x10 then (some ((⟨#[]⟩ : ByteArray), ([] : List Int), 0, false)) else (impl_takeName.l0 k x0 (wrap64 ((wrap64 ((Int.tmod (wrap64 (bt x0 x1)) 64) * 256)) + (wrap64 (bt x0 (wrap64 (x1 + 1)))))) x8 x9 (wrap64 ((wrap64 ((Int.tmod (wrap64 (bt x0 x1)) 64) * 256)) + (wrap64 (bt x0 (wrap64 (x1 + 1)))))) x11)) else (none)) else (none)))) else (if (wrap64 (bt x0 x1)) ≥ 64 then (impl_takeName.j2 k x0 x1 x8 x9 x10 x11 (wrap64 (bt x0 x1)) true) else (impl_takeName.j2 k x0 x1 x8 x9 x10 x11 (wrap64 (bt x0 x1)) (decide ((wrap64 ((wrap64 (x1 + 1)) + (wrap64 (bt x0 x1)))) > (x0.size : Int))))))) else (none)) else (none)) else (some ((⟨#[]⟩ : ByteArray), ([] : List Int), 0, false))
def impl_takeName.j2 : Nat → ByteArray → Int → List ByteArray → List Int → Int → Int → Int → Bool → Option (ByteArray × List Int × Int × Bool)
 | 0, _, _, _, _, _, _, _, _ => none
 | k + 1, x0, x1, x8, x9, x10, x11, x12, x94 => if x94 = true then (some ((⟨#[]⟩ : ByteArray), ([] : List Int), 0, false)) else (if x11 < 0 then (if x9.length < 17592186044416 then (if 0 ≤ (wrap64 (x1 + 1)) then (if (wrap64 (x1 + 1)) ≤ (wrap64 ((wrap64 (x1 + 1)) + x12)) then (if (wrap64 ((wrap64 (x1 + 1)) + x12)) ≤ (x0.size : Int) then ((impl_small.f (x0.extract ((wrap64 (x1 + 1)) : Int).toNat ((wrap64 ((wrap64 (x1 + 1)) + x12)) : Int).toNat)).bind fun t268 => (if x8.length < 8796093022208 then (impl_takeName.l0 k x0 (wrap64 (x1 + (wrap64 (1 + x12)))) (x8 ++ [t268]) (x9 ++ [x1]) x10 x11) else (none))) else (none)) else (none)) else (none)) else (none)) else (if 0 ≤ (wrap64 (x1 + 1)) then (if (wrap64 (x1 + 1)) ≤ (wrap64 ((wrap64 (x1 + 1)) + x12)) then (if (wrap64 ((wrap64 (x1 + 1)) + x12)) ≤ (x0.size : Int) then ((impl_small.f (x0.extract ((wrap64 (x1 + 1)) : Int).toNat ((wrap64 ((wrap64 (x1 + 1)) + x12)) : Int).toNat)).bind fun t272 => (if x8.length < 8796093022208 then (impl_takeName.l0 k x0 (wrap64 (x1 + (wrap64 (1 + x12)))) (x8 ++ [t272]) x9 x10 x11) else (none))) else (none)) else (none)) else (none)))
end
def impl_takeName.f (k : Nat) (a0 : ByteArray) (a1 : Int) : Option (ByteArray × List Int × Int × Bool) := impl_takeName.l0 k a0 a1 (([] : List ByteArray)) (([] : List Int)) a1 (-1)
theorem impl_takeName.mono_l : ∀ k, (∀ y0 y1 y2 y3 y4 y5, LeO (impl_takeName.l0 k y0 y1 y2 y3 y4 y5) (impl_takeName.l0 (k + 1) y0 y1 y2 y3 y4 y5)) ∧ (∀ y0 y1 y2 y3 y4 y5 y6, LeO (impl_takeName.j1 k y0 y1 y2 y3 y4 y5 y6) (impl_takeName.j1 (k + 1) y0 y1 y2 y3 y4 y5 y6)) ∧ (∀ y0 y1 y2 y3 y4 y5 y6 y7, LeO (impl_takeName.j2 k y0 y1 y2 y3 y4 y5 y6 y7) (impl_takeName.j2 (k + 1) y0 y1 y2 y3 y4 y5 y6 y7))
 | 0 => ⟨fun _ _ _ _ _ _ r h => by simp [impl_takeName.l0] at h, fun _ _ _ _ _ _ _ r h => by simp [impl_takeName.j1] at h, fun _ _ _ _ _ _ _ _ r h => by simp [impl_takeName.j2] at h⟩
 | k + 1 => by
  obtain ⟨ih0, ih1, ih2⟩ := impl_takeName.mono_l k
  refine ⟨?_, ?_, ?_⟩
  · intro y0 y1 y2 y3 y4 y5
    unfold impl_takeName.l0
    repeat' first | (with_reducible first | exact ih0 _ _ _ _ _ _ | exact ih1 _ _ _ _ _ _ _ | exact ih2 _ _ _ _ _ _ _ _ | exact LeO.refl _ | exact LeO.none _ | refine LeO.ite ?_ ?_ | refine LeO.bind ?_ (fun _ => ?_)) | exact LeO.none _ | refine LeO.ite ?_ ?_ | refine LeO.bind ?_ (fun _ => ?_)
  · intro y0 y1 y2 y3 y4 y5 y6
    unfold impl_takeName.j1
    repeat' first | (with_reducible first | exact ih0 _ _ _ _ _ _ | exact ih1 _ _ _ _ _ _ _ | exact ih2 _ _ _ _ _ _ _ _ | exact LeO.refl _ | exact LeO.none _ | refine LeO.ite ?_ ?_ | refine LeO.bind ?_ (fun _ => ?_)) | exact LeO.none _ | refine LeO.ite ?_ ?_ | refine LeO.bind ?_ (fun _ => ?_)
  · intro y0 y1 y2 y3 y4 y5 y6 y7
    unfold impl_takeName.j2
    repeat' first | (with_reducible first | exact ih0 _ _ _ _ _ _ | exact ih1 _ _ _ _ _ _ _ | exact ih2 _ _ _ _ _ _ _ _ | exact LeO.refl _ | exact LeO.none _ | refine LeO.ite ?_ ?_ | refine LeO.bind ?_ (fun _ => ?_)) | exact LeO.none _ | refine LeO.ite ?_ ?_ | refine LeO.bind ?_ (fun _ => ?_)
theorem impl_takeName.mono : ∀ a0 a1 k, LeO (impl_takeName.f k a0 a1) (impl_takeName.f (k + 1) a0 a1) := by
 intro a0 a1 k
 obtain ⟨ih0, ih1, ih2⟩ := impl_takeName.mono_l k
 unfold impl_takeName.f
 repeat' first | (with_reducible first | exact ih0 _ _ _ _ _ _ | exact ih1 _ _ _ _ _ _ _ | exact ih2 _ _ _ _ _ _ _ _ | exact LeO.refl _ | exact LeO.none _ | refine LeO.ite ?_ ?_ | refine LeO.bind ?_ (fun _ => ?_)) | exact LeO.none _ | refine LeO.ite ?_ ?_ | refine LeO.bind ?_ (fun _ => ?_)
theorem impl_takeName.calls (k : Nat) (a0 : ByteArray) (a1 : Int) (r1 : ByteArray) (r2 : List Int) (r3 : Int) (r4 : Bool) (w : World) (h : impl_takeName.f k a0 a1 = some (r1, r2, r3, r4)) :
 Calls Tryz.prog 125 #[.string a0, .int .i64 a1] w fun e w' => ∃ v1_ : Value, e = .returned (.tuple #[.string r1, v1_, .int .i64 r3, .bool r4]) ∧ Kd.R (Kd.int .i64) 3 w' w.heap.size (fun _ => True) v1_ r2 ∧ Below w.heap.size w w' := by
 have HB := a0_ (Below.refl w.heap.size w)
 have H := h
 clear h
 unfold impl_takeName.f at H
 obtain ⟨y255, hy255⟩ : ∃ y_ : List ByteArray, y_ = (([] : List ByteArray)) := ⟨_, rfl⟩
 replace H : (impl_takeName.l0 k a0 a1 y255 (([] : List Int)) a1 (-1)) = some (r1, r2, r3, r4) := by first | (rw [hy255]; with_reducible exact H) | (have H2_ := (Option.bind_some _ _).symm.trans H; rw [hy255]; with_reducible exact H2_) | (have H2_ := (Option.bind_some _ _).symm.trans H; with_reducible exact H2_) | with_reducible exact H | (rw [hy255]; exact H) | exact H
 have Ny255 := a0_ hy255
 clear hy255
 obtain ⟨y258, hy258⟩ : ∃ y_ : List Int, y_ = (([] : List Int)) := ⟨_, rfl⟩
 replace H : (impl_takeName.l0 k a0 a1 y255 y258 a1 (-1)) = some (r1, r2, r3, r4) := by first | (rw [hy258]; with_reducible exact H) | (have H2_ := (Option.bind_some _ _).symm.trans H; rw [hy258]; with_reducible exact H2_) | (have H2_ := (Option.bind_some _ _).symm.trans H; with_reducible exact H2_) | with_reducible exact H | (rw [hy258]; exact H) | exact H
 have Ny258 := a0_ hy258
 clear hy258
 have H' := a0_ H
 clear H
 go_enter Tryz.func125, Tryz.ntmps125
 go_wp2_with (first | ((with_reducible refine gate_dst (N := 15) rfl ?_); (try (refine gate_guard (by rfl) ?_; dsimp only)); refine ls_ 15 9 ([] : List ByteArray) ?_; intro v256 w3 ho4 hb hg_ hnew_; clear hg_ hnew_; (first | rw [← Ny255.out] at ho4 | (simp only [Int.reduceToNat] at ho4; rw [← Ny255.out] at ho4)); have HO257 := a0_ (Kd.R_lower ho4 (below_size bq0_)); replace HB := a0_ (below_step bq0_ hb); clear hb ho4) | ((with_reducible refine gate_dst (N := 16) rfl ?_); (try (refine gate_guard (by rfl) ?_; dsimp only)); refine Kd.R_lit (Kd.int .i64) _ 3 ?hg (N := 16) ?hd (xs := ([] : List Int)) (inner := []) (ok := fun _ => True) (okp := fun _ => True) ?hr ?hp (fun _ hk => hk) trivial (Below.refl _ _) (Nat.le_refl _) (by simp) ?_; (case hd => rfl); (case hg => rfl); (case hr => first | (go_simp; done) | (go_simp; rfl)); (case hp => exact (Reps.none _ _)); intro v259 w5 ho6 hb hg_ hnew_; clear hg_ hnew_; (first | rw [← Ny258.out] at ho6 | (simp only [Int.reduceToNat] at ho6; rw [← Ny258.out] at ho6)); replace HO257 := a0_ (Kd.R_below (kR_ HO257.out) hb); have HO260 := a0_ (Kd.R_lower ho6 (below_size bq0_)); replace HB := a0_ (below_step bq0_ hb); clear hb ho6))
 go_loopg [1, 8, 9, 10, 11] k (fun kq v1 v8 v9 v10 v11 w' => ∃ (x1_1 : Int) (x8_1 : List ByteArray) (x9_1 : List Int) (x10_1 : Int) (x11_1 : Int), v1 = .int .i64 x1_1 ∧ v10 = .int .i64 x10_1 ∧ v11 = .int .i64 x11_1 ∧ Aside0 (impl_takeName.l0 kq a0 x1_1 x8_1 x9_1 x10_1 x11_1 = some (r1, r2, r3, r4)) ∧ Aside0 (kq ≤ k) ∧ Aside0 (Kd.R Kd.string 9 w' w.heap.size (fun _ => True) v8 x8_1) ∧ Aside0 (Kd.R (Kd.int .i64) 3 w' w.heap.size (fun _ => True) v9 x9_1) ∧ Aside0 (Below w.heap.size w w'))
 case atStart => exact ⟨(a1), (y255), (y258), (a1), ((-1)), rs_, rs_, rs_, H', ⟨Nat.le_refl _⟩, ⟨kR_ HO257.out⟩, ⟨kR_ HO260.out⟩, ⟨bq0_⟩⟩
 case round =>
  clear H'
  obtain ⟨x1_1, x8_1, x9_1, x10_1, x11_1, rfl, rfl, rfl, HA, HK1, HO_8, HO_9, HB⟩ := hrel
  cases gk with
  | zero => exact absurd HA.out (by simp [impl_takeName.l0])
  | succ k1 =>
   have H := HA.out
   clear HA
   simp only [impl_takeName.l0] at H
   have HC7 := a0_ H
   clear H
   go_upto_region 3 with (fail)
   go_cut [26] (fun v26 wc => ∃ (kq : Nat) (x26_6 : Bool), v26 = .bool x26_6 ∧ Aside0 (impl_takeName.j1 kq a0 x1_1 x8_1 x9_1 x10_1 x11_1 x26_6 = some (r1, r2, r3, r4)) ∧ Aside0 (kq ≤ k1) ∧ Aside0 (Kd.R Kd.string 9 wc w.heap.size (fun _ => True) u8 x8_1) ∧ Aside0 (Kd.R (Kd.int .i64) 3 wc w.heap.size (fun _ => True) u9 x9_1) ∧ Aside0 (Below w.heap.size w wc))
   case first =>
    have H := HC7.out
    clear HC7
    by_cases c8 : x1_1 < (a0.size : Int)
    case neg =>
     rw [if_neg c8] at H
     have c8b0 := decide_eq_false c8
     clear c8
     (first | rw [c8b0] | (simp only [i64_w, i32_w]; rw [c8b0]) | skip)
     have H' := a0_ H
     clear H
     go_wp2
     go_meet
     case rel => exact ⟨_, (false), rs_, H', jl_ HK1, ⟨kR_ HO_8.out⟩, ⟨kR_ HO_9.out⟩, ⟨bq0_⟩⟩
    rw [if_pos c8] at H
    have c8b0 := decide_eq_true c8
    clear c8
    (first | rw [c8b0] | (simp only [i64_w, i32_w]; rw [c8b0]) | skip)
    have H' := a0_ H
    clear H
    obtain ⟨Ao9, co9, eo9⟩ := Kd.R_slice HO_8.out
    subst eo9
    go_wp2
    go_meet
    case rel => exact ⟨_, (decide ((x8_1.length : Int) ≤ 8)), rs_, H', jl_ HK1, ⟨kR_ HO_8.out⟩, ⟨kR_ HO_9.out⟩, ⟨bq0_⟩⟩
   case rest =>
    clear HC7
    try clear c1
    try clear p2
    try clear p2
    obtain ⟨kq, x26_6, rfl, HA, HJ6, HO_8, HO_9, HB⟩ := hcut
    cases kq with
    | zero => exact absurd HA.out (by simp [impl_takeName.j1])
    | succ kj6 =>
     have H := HA.out
     clear HA
     simp only [impl_takeName.j1] at H
     by_cases c10 : x26_6 = true
     case neg =>
      replace c10 := Bool.eq_false_iff.mpr c10
      subst c10
      rw [if_neg ff_] at H
      simp only [Option.some.injEq, Prod.mk.injEq] at H
      obtain ⟨rfl, rfl, rfl, rfl⟩ := H
      go_wp2
      refine bodyPost_ret (results_list (rs := [.tmp 4, .tmp 5, .tmp 6, .tmp 7]) rfl (by simp) (.tmp (.tmp (.tmp (.tmp .nil))))) rfl ?_
      exact ⟨_, rr_, by first | exact Kd.R_nil _ _ _ _ _ | exact Kd.N_nil _ _ _ _ _ | exact Kd.V_nil _ _ _ _ _ | exact Kd.Q_nil _ _ _ _ _ | exact Kd.S_nil _ _ _ _ _, bq0_⟩
     subst c10
     rw [if_pos rfl] at H
     by_cases c11 : 0 ≤ x1_1
     case neg =>
      rw [if_neg c11] at H
      exact absurd H (by simp)
     rw [if_pos c11] at H
     have c11b0 := decide_eq_true c11
     clear c11
     by_cases c12 : x1_1 < (a0.size : Int)
     case neg =>
      rw [if_neg c12] at H
      exact absurd H (by simp)
     rw [if_pos c12] at H
     have c12b0 := decide_eq_true c12
     clear c12
     by_cases c14 : (wrap64 (bt a0 x1_1)) = 0
     case pos =>
      rw [if_pos c14] at H
      have c14b0 := beq_iff_eq.mpr c14
      have c14b1 := bne_eq_false_iff_eq.mpr c14
      clear c14
      by_cases c15 : x11_1 < 0
      case neg =>
       rw [if_neg c15] at H
       have c15b0 := decide_eq_false c15
       clear c15
       obtain ⟨⟨t263, t264⟩, A19, H⟩ := ob_ H
       simp only [Option.some.injEq, Prod.mk.injEq] at H
       obtain ⟨rfl, rfl, rfl, rfl⟩ := H
       have p13 := t0_ (x1_1)
       have q13 := tl_ (x1_1) (a0.size)
       have hx13 := bt_at a0 x1_1
       obtain ⟨Ao20, co20, eo20⟩ := Kd.R_slice HO_8.out
       subst eo20
       go_wp2_with (first | ((with_reducible refine gt_ 175 rfl ?_); refine gs_ 62 Tryz.func175 #[.slice Ao20 x8_1.length co20] ?_; (with_reducible refine (impl_NameOf.calls _ _ x8_1 t263 t264 _ ?side1 ?side2 A19.out).mono ?_); (case side1 => exact kD_ (Kd.R_reads' HO_8.out).2.2); (case side2 => exact (Kd.R_reads' HO_8.out).2.1); rintro e w21 ⟨rfl, hb⟩; refine ⟨_, rfl, ?_⟩; replace HO_8 := a0_ (Kd.R_below (kR_ HO_8.out) hb); replace HO_9 := a0_ (Kd.R_below (kR_ HO_9.out) hb); replace HB := a0_ (below_step bq0_ hb); clear hb))
       refine bodyPost_ret (results_list (rs := [.tmp 4, .tmp 5, .tmp 6, .tmp 7]) rfl (by simp) (.tmp (.tmp (.tmp (.tmp .nil))))) rfl ?_
       exact ⟨_, rr_, kR_ HO_9.out, bq0_⟩
      rw [if_pos c15] at H
      have c15b0 := decide_eq_true c15
      clear c15
      obtain ⟨⟨t261, t262⟩, A16, H⟩ := ob_ H
      simp only [Option.some.injEq, Prod.mk.injEq] at H
      obtain ⟨rfl, rfl, rfl, rfl⟩ := H
      have p13 := t0_ (x1_1)
      have q13 := tl_ (x1_1) (a0.size)
      have hx13 := bt_at a0 x1_1
      obtain ⟨Ao17, co17, eo17⟩ := Kd.R_slice HO_8.out
      subst eo17
      go_wp2_with (first | ((with_reducible refine gt_ 175 rfl ?_); refine gs_ 62 Tryz.func175 #[.slice Ao17 x8_1.length co17] ?_; (with_reducible refine (impl_NameOf.calls _ _ x8_1 t261 t262 _ ?side1 ?side2 A16.out).mono ?_); (case side1 => exact kD_ (Kd.R_reads' HO_8.out).2.2); (case side2 => exact (Kd.R_reads' HO_8.out).2.1); rintro e w18 ⟨rfl, hb⟩; refine ⟨_, rfl, ?_⟩; replace HO_8 := a0_ (Kd.R_below (kR_ HO_8.out) hb); replace HO_9 := a0_ (Kd.R_below (kR_ HO_9.out) hb); replace HB := a0_ (below_step bq0_ hb); clear hb))
      refine bodyPost_ret (results_list (rs := [.tmp 4, .tmp 5, .tmp 6, .tmp 7]) rfl (by simp) (.tmp (.tmp (.tmp (.tmp .nil))))) rfl ?_
      exact ⟨_, rr_, kR_ HO_9.out, bq0_⟩
     rw [if_neg c14] at H
     have c14b0 := beq_eq_false_iff_ne.mpr c14
     have c14b1 := bne_iff_ne.mpr c14
     by_cases c22 : (wrap64 (bt a0 x1_1)) ≥ 192
     case pos =>
      rw [if_pos c22] at H
      have c22b0 := decide_eq_true c22
      clear c22
      by_cases c23 : (wrap64 (x1_1 + 1)) ≥ (a0.size : Int)
      case pos =>
       rw [if_pos c23] at H
       have c23b0 := decide_eq_true c23
       clear c23
       simp only [Option.some.injEq, Prod.mk.injEq] at H
       obtain ⟨rfl, rfl, rfl, rfl⟩ := H
       have p13 := t0_ (x1_1)
       have q13 := tl_ (x1_1) (a0.size)
       have hx13 := bt_at a0 x1_1
       go_wp2
       refine bodyPost_ret (results_list (rs := [.tmp 4, .tmp 5, .tmp 6, .tmp 7]) rfl (by simp) (.tmp (.tmp (.tmp (.tmp .nil))))) rfl ?_
       exact ⟨_, rr_, by first | exact Kd.R_nil _ _ _ _ _ | exact Kd.N_nil _ _ _ _ _ | exact Kd.V_nil _ _ _ _ _ | exact Kd.Q_nil _ _ _ _ _ | exact Kd.S_nil _ _ _ _ _, bq0_⟩
      rw [if_neg c23] at H
      have c23b0 := decide_eq_false c23
      clear c23
      by_cases c24 : x11_1 < 0
      case neg =>
       rw [if_neg c24] at H
       have c24b0 := decide_eq_false c24
       clear c24
       obtain ⟨ji30, hji30⟩ : ∃ j_ : Int, (wrap64 (x1_1 + 1)) = j_ := ⟨_, rfl⟩
       (first | rw [hji30] at H | simp only [hji30] at H)
       (try rw [hji30] at c23b0)
       have hji30w : (IntKind.i64.wrap (x1_1 + 1)) = ji30 := (i64_w _).trans hji30
       by_cases c31 : 0 ≤ (ji30)
       case neg =>
        rw [if_neg c31] at H
        exact absurd H (by simp)
       rw [if_pos c31] at H
       have c31b0 := decide_eq_true c31
       clear c31
       by_cases c32 : (ji30) < (a0.size : Int)
       case neg =>
        rw [if_neg c32] at H
        exact absurd H (by simp)
       rw [if_pos c32] at H
       have c32b0 := decide_eq_true c32
       clear c32
       by_cases c34 : (wrap64 ((wrap64 ((Int.tmod (wrap64 (bt a0 x1_1)) 64) * 256)) + (wrap64 (bt a0 (ji30))))) ≥ x10_1
       case pos =>
        rw [if_pos c34] at H
        have c34b0 := decide_eq_true c34
        clear c34
        simp only [Option.some.injEq, Prod.mk.injEq] at H
        obtain ⟨rfl, rfl, rfl, rfl⟩ := H
        have p13 := t0_ (x1_1)
        have q13 := tl_ (x1_1) (a0.size)
        have hx13 := bt_at a0 x1_1
        have p33 := t0_ ((ji30))
        have q33 := tl_ ((ji30)) (a0.size)
        have hx33 := bt_at a0 (ji30)
        go_wp2
        refine bodyPost_ret (results_list (rs := [.tmp 4, .tmp 5, .tmp 6, .tmp 7]) rfl (by simp) (.tmp (.tmp (.tmp (.tmp .nil))))) rfl ?_
        exact ⟨_, by first | rfl | (simp [errW_none, errW_some] <;> rfl) | (simp only [← hji30]; first | rfl | (simp [errW_none, errW_some] <;> rfl)) | (simp [*, errW_none, errW_some] <;> rfl), by first | exact Kd.R_nil _ _ _ _ _ | exact Kd.N_nil _ _ _ _ _ | exact Kd.V_nil _ _ _ _ _ | exact Kd.Q_nil _ _ _ _ _ | exact Kd.S_nil _ _ _ _ _, bq0_⟩
       rw [if_neg c34] at H
       have c34b0 := decide_eq_false c34
       clear c34
       have H' := a0_ H
       clear H
       have p13 := t0_ (x1_1)
       have q13 := tl_ (x1_1) (a0.size)
       have hx13 := bt_at a0 x1_1
       have p33 := t0_ ((ji30))
       have q33 := tl_ ((ji30)) (a0.size)
       have hx33 := bt_at a0 (ji30)
       go_wp2
       go_roundg kj6
       case measure => have := HK1.out; have := HJ6.out; omega
       case rel => exact ⟨(wrap64 ((wrap64 ((Int.tmod (wrap64 (bt a0 x1_1)) 64) * 256)) + (wrap64 (bt a0 (ji30))))), (x8_1), (x9_1), (wrap64 ((wrap64 ((Int.tmod (wrap64 (bt a0 x1_1)) 64) * 256)) + (wrap64 (bt a0 (ji30))))), (x11_1), (by first | rfl | (simp; done) | (simp only [← hji30] <;> (first | rfl | simp)) | (simp [*]; done)), (by first | rfl | (simp; done) | (simp only [← hji30] <;> (first | rfl | simp)) | (simp [*]; done)), rs_, H', jm_ HK1 HJ6, ⟨kR_ HO_8.out⟩, ⟨kR_ HO_9.out⟩, ⟨bq0_⟩⟩
      rw [if_pos c24] at H
      have c24b0 := decide_eq_true c24
      clear c24
      obtain ⟨ji25, hji25⟩ : ∃ j_ : Int, (wrap64 (x1_1 + 1)) = j_ := ⟨_, rfl⟩
      (first | rw [hji25] at H | simp only [hji25] at H)
      (try rw [hji25] at c23b0)
      have hji25w : (IntKind.i64.wrap (x1_1 + 1)) = ji25 := (i64_w _).trans hji25
      by_cases c26 : 0 ≤ (ji25)
      case neg =>
       rw [if_neg c26] at H
       exact absurd H (by simp)
      rw [if_pos c26] at H
      have c26b0 := decide_eq_true c26
      clear c26
      by_cases c27 : (ji25) < (a0.size : Int)
      case neg =>
       rw [if_neg c27] at H
       exact absurd H (by simp)
      rw [if_pos c27] at H
      have c27b0 := decide_eq_true c27
      clear c27
      by_cases c29 : (wrap64 ((wrap64 ((Int.tmod (wrap64 (bt a0 x1_1)) 64) * 256)) + (wrap64 (bt a0 (ji25))))) ≥ x10_1
      case pos =>
       rw [if_pos c29] at H
       have c29b0 := decide_eq_true c29
       clear c29
       simp only [Option.some.injEq, Prod.mk.injEq] at H
       obtain ⟨rfl, rfl, rfl, rfl⟩ := H
       have p13 := t0_ (x1_1)
       have q13 := tl_ (x1_1) (a0.size)
       have hx13 := bt_at a0 x1_1
       have p28 := t0_ ((ji25))
       have q28 := tl_ ((ji25)) (a0.size)
       have hx28 := bt_at a0 (ji25)
       go_wp2
       refine bodyPost_ret (results_list (rs := [.tmp 4, .tmp 5, .tmp 6, .tmp 7]) rfl (by simp) (.tmp (.tmp (.tmp (.tmp .nil))))) rfl ?_
       exact ⟨_, by first | rfl | (simp [errW_none, errW_some] <;> rfl) | (simp only [← hji25]; first | rfl | (simp [errW_none, errW_some] <;> rfl)) | (simp [*, errW_none, errW_some] <;> rfl), by first | exact Kd.R_nil _ _ _ _ _ | exact Kd.N_nil _ _ _ _ _ | exact Kd.V_nil _ _ _ _ _ | exact Kd.Q_nil _ _ _ _ _ | exact Kd.S_nil _ _ _ _ _, bq0_⟩
      rw [if_neg c29] at H
      have c29b0 := decide_eq_false c29
      clear c29
      have H' := a0_ H
      clear H
      have p13 := t0_ (x1_1)
      have q13 := tl_ (x1_1) (a0.size)
      have hx13 := bt_at a0 x1_1
      have p28 := t0_ ((ji25))
      have q28 := tl_ ((ji25)) (a0.size)
      have hx28 := bt_at a0 (ji25)
      go_wp2
      go_roundg kj6
      case measure => have := HK1.out; have := HJ6.out; omega
      case rel => exact ⟨(wrap64 ((wrap64 ((Int.tmod (wrap64 (bt a0 x1_1)) 64) * 256)) + (wrap64 (bt a0 (ji25))))), (x8_1), (x9_1), (wrap64 ((wrap64 ((Int.tmod (wrap64 (bt a0 x1_1)) 64) * 256)) + (wrap64 (bt a0 (ji25))))), (wrap64 (x1_1 + 2)), (by first | rfl | (simp; done) | (simp only [← hji25] <;> (first | rfl | simp)) | (simp [*]; done)), (by first | rfl | (simp; done) | (simp only [← hji25] <;> (first | rfl | simp)) | (simp [*]; done)), rs_, H', jm_ HK1 HJ6, ⟨kR_ HO_8.out⟩, ⟨kR_ HO_9.out⟩, ⟨bq0_⟩⟩
     rw [if_neg c22] at H
     have c22b0 := decide_eq_false c22
     clear c22
     have HC35 := a0_ H
     clear H
     have p13 := t0_ (x1_1)
     have q13 := tl_ (x1_1) (a0.size)
     have hx13 := bt_at a0 x1_1
     go_upto_region 23 with (fail)
     go_cut [94] (fun v94 wc => ∃ (kq : Nat) (x94_34 : Bool), v94 = .bool x94_34 ∧ Aside0 (impl_takeName.j2 kq a0 x1_1 x8_1 x9_1 x10_1 x11_1 (wrap64 (bt a0 x1_1)) x94_34 = some (r1, r2, r3, r4)) ∧ Aside0 (kq ≤ kj6) ∧ Aside0 (Kd.R Kd.string 9 wc w.heap.size (fun _ => True) u8 x8_1) ∧ Aside0 (Kd.R (Kd.int .i64) 3 wc w.heap.size (fun _ => True) u9 x9_1) ∧ Aside0 (Below w.heap.size w wc))
     case first =>
      have H := HC35.out
      clear HC35
      by_cases c36 : (wrap64 (bt a0 x1_1)) ≥ 64
      case neg =>
       rw [if_neg c36] at H
       have c36b0 := decide_eq_false c36
       clear c36
       (first | rw [c36b0] | (simp only [i64_w, i32_w]; rw [c36b0]) | skip)
       have H' := a0_ H
       clear H
       go_wp2
       go_meet
       case rel => exact ⟨_, (decide ((wrap64 ((wrap64 (x1_1 + 1)) + (wrap64 (bt a0 x1_1)))) > (a0.size : Int))), rs_, H', ⟨by have := HK1.out; have := HJ6.out; first | omega | exact Nat.le_refl _⟩, ⟨kR_ HO_8.out⟩, ⟨kR_ HO_9.out⟩, ⟨bq0_⟩⟩
      rw [if_pos c36] at H
      have c36b0 := decide_eq_true c36
      clear c36
      (first | rw [c36b0] | (simp only [i64_w, i32_w]; rw [c36b0]) | skip)
      have H' := a0_ H
      clear H
      go_wp2
      go_meet
      case rel => exact ⟨_, (true), rs_, H', ⟨by have := HK1.out; have := HJ6.out; first | omega | exact Nat.le_refl _⟩, ⟨kR_ HO_8.out⟩, ⟨kR_ HO_9.out⟩, ⟨bq0_⟩⟩
     case rest =>
      clear HC35
      try clear c1
      try clear p2
      try clear c8
      try clear c8b0
      try clear c10
      try clear c11
      try clear c11b0
      try clear c12
      try clear c12b0
      try clear p13
      try clear q13
      try clear hx13
      try clear c14
      try clear c14b0
      try clear c14b1
      try clear c22
      try clear c22b0
      try clear p13
      try clear p2
      try clear q13
      obtain ⟨kq, x94_34, rfl, HA, HJ34, HO_8, HO_9, HB⟩ := hcut
      cases kq with
      | zero => exact absurd HA.out (by simp [impl_takeName.j2])
      | succ kj34 =>
       have H := HA.out
       clear HA
       simp only [impl_takeName.j2] at H
       by_cases c37 : x94_34 = true
       case pos =>
        subst c37
        rw [if_pos rfl] at H
        simp only [Option.some.injEq, Prod.mk.injEq] at H
        obtain ⟨rfl, rfl, rfl, rfl⟩ := H
        go_wp2
        refine bodyPost_ret (results_list (rs := [.tmp 4, .tmp 5, .tmp 6, .tmp 7]) rfl (by simp) (.tmp (.tmp (.tmp (.tmp .nil))))) rfl ?_
        exact ⟨_, rr_, by first | exact Kd.R_nil _ _ _ _ _ | exact Kd.N_nil _ _ _ _ _ | exact Kd.V_nil _ _ _ _ _ | exact Kd.Q_nil _ _ _ _ _ | exact Kd.S_nil _ _ _ _ _, bq0_⟩
       replace c37 := Bool.eq_false_iff.mpr c37
       subst c37
       rw [if_neg ff_] at H
       by_cases c38 : x11_1 < 0
       case neg =>
        rw [if_neg c38] at H
        have c38b0 := decide_eq_false c38
        clear c38
        obtain ⟨ji49, hji49⟩ : ∃ j_ : Int, (wrap64 (x1_1 + 1)) = j_ := ⟨_, rfl⟩
        (first | rw [hji49] at H | simp only [hji49] at H)
        have hji49w : (IntKind.i64.wrap (x1_1 + 1)) = ji49 := (i64_w _).trans hji49
        by_cases c50 : 0 ≤ (ji49)
        case neg =>
         rw [if_neg c50] at H
         exact absurd H (by simp)
        rw [if_pos c50] at H
        have c50b0 := eq_true c50
        have c50b1 := decide_eq_true c50
        clear c50
        by_cases c51 : (ji49) ≤ (wrap64 ((ji49) + (wrap64 (bt a0 x1_1))))
        case neg =>
         rw [if_neg c51] at H
         exact absurd H (by simp)
        rw [if_pos c51] at H
        have c51b0 := eq_true c51
        have c51b1 := decide_eq_true c51
        by_cases c52 : (wrap64 ((ji49) + (wrap64 (bt a0 x1_1)))) ≤ (a0.size : Int)
        case neg =>
         rw [if_neg c52] at H
         exact absurd H (by simp)
        rw [if_pos c52] at H
        have c52b0 := eq_true c52
        have c52b1 := decide_eq_true c52
        obtain ⟨t272, A53, H⟩ := ob_ H
        by_cases c54 : x8_1.length < 8796093022208
        case neg =>
         rw [if_neg c54] at H
         exact absurd H (by simp)
        rw [if_pos c54] at H
        have LMc54 := a0_ c54
        clear c54
        obtain ⟨y273, hy273⟩ : ∃ y_ : List ByteArray, y_ = (x8_1 ++ [t272]) := ⟨_, rfl⟩
        replace H : (impl_takeName.l0 kj34 a0 (wrap64 (x1_1 + (wrap64 (1 + (wrap64 (bt a0 x1_1)))))) y273 x9_1 x10_1 x11_1) = some (r1, r2, r3, r4) := by first | (rw [hy273]; with_reducible exact H) | (have H2_ := (Option.bind_some _ _).symm.trans H; rw [hy273]; with_reducible exact H2_) | (have H2_ := (Option.bind_some _ _).symm.trans H; with_reducible exact H2_) | with_reducible exact H | (rw [hy273]; exact H) | exact H
        have Ny273 := a0_ hy273
        clear hy273
        have H' := a0_ H
        clear H
        go_wp2_with (first | ((with_reducible refine gate_callee (f := 176) rfl ?_); refine goesL_ (some 46) rfl rfl Tryz.func176 (by kernel_rfl) rfl #[.string (a0.extract ((ji49) : Int).toNat ((wrap64 ((ji49) + (wrap64 (bt a0 x1_1)))) : Int).toNat)] rfl (by (try simp only [List.map_toArray, List.map_cons, List.map_nil]); first | done | (simp only [hji49]; rfl) | rfl | (simp only [List.length_drop, List.length_take]; rfl)) ?_; (with_reducible refine (impl_small.calls (a0.extract ((ji49) : Int).toNat ((wrap64 ((ji49) + (wrap64 (bt a0 x1_1)))) : Int).toNat) t272 _ A53.out).mono ?_); rintro e w55 ⟨rfl, hb⟩; refine ⟨_, rfl, ?_⟩; replace HO_8 := a0_ (Kd.R_below (kR_ HO_8.out) hb); replace HO_9 := a0_ (Kd.R_below (kR_ HO_9.out) hb); replace HB := a0_ (below_step bq0_ hb); clear hb) | ((with_reducible refine gate_builtin (b := .append) (xs := #[.tmp 37, .tmp 47]) rfl ?_); (try (refine gate_guard (by rfl) ?_; dsimp only)); at_builtin; refine Kd.R_append Kd.string (w0 := w) w.heap.size rfl (.tmp 37) (.tmp 47) 78 9 (.string ⟨#[]⟩) 16 rfl Tryz.underlying78 info9 rfl (by decide) (by omega) u8 x8_1 t272 [.string t272] (fun _ => True) (fun _ => False) rfl rfl ?aP (fun _ hk => hk.elim) ?aF ?aO ?aB ?aS ?aL ?_; (case aP => exact rfl); (case aB => exact bq0_); (case aF => exact (fun _ _ => trivial)); (case aO => exact (kR_ HO_8.out)); (case aS => exact (below_size bq0_)); (case aL => have := LMc54.out; omega); intro v274 w56 ho hb hg hat; rw [← Ny273.out] at ho; replace HO_9 := a0_ (Kd.R_over' (kR_ HO_9.out) (Kd.R_typed (kR_ HO_8.out)) (by decide) hg); replace HB := a0_ (hb); have HO275 := a0_ (ho); clear HO_8; clear ho hb hg hat))
        go_roundg kj34
        case measure => have := HK1.out; have := HJ6.out; have := HJ34.out; omega
        case rel => exact ⟨(wrap64 (x1_1 + (wrap64 (1 + (wrap64 (bt a0 x1_1)))))), (y273), (x9_1), (x10_1), (x11_1), rs_, rs_, rs_, H', jn_ HK1 HJ6 HJ34, ⟨kR_ HO275.out⟩, ⟨kR_ HO_9.out⟩, ⟨bq0_⟩⟩
       rw [if_pos c38] at H
       have c38b0 := decide_eq_true c38
       clear c38
       by_cases c39 : x9_1.length < 17592186044416
       case neg =>
        rw [if_neg c39] at H
        exact absurd H (by simp)
       rw [if_pos c39] at H
       have LMc39 := a0_ c39
       clear c39
       obtain ⟨y265, hy265⟩ : ∃ y_ : List Int, y_ = (x9_1 ++ [x1_1]) := ⟨_, rfl⟩
       replace H : (if 0 ≤ (wrap64 (x1_1 + 1)) then (if (wrap64 (x1_1 + 1)) ≤ (wrap64 ((wrap64 (x1_1 + 1)) + (wrap64 (bt a0 x1_1)))) then (if (wrap64 ((wrap64 (x1_1 + 1)) + (wrap64 (bt a0 x1_1)))) ≤ (a0.size : Int) then ((impl_small.f (a0.extract ((wrap64 (x1_1 + 1)) : Int).toNat ((wrap64 ((wrap64 (x1_1 + 1)) + (wrap64 (bt a0 x1_1)))) : Int).toNat)).bind fun t268 => (if x8_1.length < 8796093022208 then (impl_takeName.l0 kj34 a0 (wrap64 (x1_1 + (wrap64 (1 + (wrap64 (bt a0 x1_1)))))) (x8_1 ++ [t268]) y265 x10_1 x11_1) else (none))) else (none)) else (none)) else (none)) = some (r1, r2, r3, r4) := by first | (rw [hy265]; with_reducible exact H) | (have H2_ := (Option.bind_some _ _).symm.trans H; rw [hy265]; with_reducible exact H2_) | (have H2_ := (Option.bind_some _ _).symm.trans H; with_reducible exact H2_) | with_reducible exact H | (rw [hy265]; exact H) | exact H
       have Ny265 := a0_ hy265
       clear hy265
       obtain ⟨ji40, hji40⟩ : ∃ j_ : Int, (wrap64 (x1_1 + 1)) = j_ := ⟨_, rfl⟩
       (first | rw [hji40] at H | simp only [hji40] at H)
       have hji40w : (IntKind.i64.wrap (x1_1 + 1)) = ji40 := (i64_w _).trans hji40
       by_cases c41 : 0 ≤ (ji40)
       case neg =>
        rw [if_neg c41] at H
        exact absurd H (by simp)
       rw [if_pos c41] at H
       have c41b0 := eq_true c41
       have c41b1 := decide_eq_true c41
       clear c41
       by_cases c42 : (ji40) ≤ (wrap64 ((ji40) + (wrap64 (bt a0 x1_1))))
       case neg =>
        rw [if_neg c42] at H
        exact absurd H (by simp)
       rw [if_pos c42] at H
       have c42b0 := eq_true c42
       have c42b1 := decide_eq_true c42
       by_cases c43 : (wrap64 ((ji40) + (wrap64 (bt a0 x1_1)))) ≤ (a0.size : Int)
       case neg =>
        rw [if_neg c43] at H
        exact absurd H (by simp)
       rw [if_pos c43] at H
       have c43b0 := eq_true c43
       have c43b1 := decide_eq_true c43
       obtain ⟨t268, A44, H⟩ := ob_ H
       by_cases c45 : x8_1.length < 8796093022208
       case neg =>
        rw [if_neg c45] at H
        exact absurd H (by simp)
       rw [if_pos c45] at H
       have LMc45 := a0_ c45
       clear c45
       obtain ⟨y269, hy269⟩ : ∃ y_ : List ByteArray, y_ = (x8_1 ++ [t268]) := ⟨_, rfl⟩
       replace H : (impl_takeName.l0 kj34 a0 (wrap64 (x1_1 + (wrap64 (1 + (wrap64 (bt a0 x1_1)))))) y269 y265 x10_1 x11_1) = some (r1, r2, r3, r4) := by first | (rw [hy269]; with_reducible exact H) | (have H2_ := (Option.bind_some _ _).symm.trans H; rw [hy269]; with_reducible exact H2_) | (have H2_ := (Option.bind_some _ _).symm.trans H; with_reducible exact H2_) | with_reducible exact H | (rw [hy269]; exact H) | exact H
       have Ny269 := a0_ hy269
       clear hy269
       have H' := a0_ H
       clear H
       go_wp2_with (first | ((with_reducible refine gate_builtin (b := .append) (xs := #[.tmp 33, .tmp 35]) rfl ?_); (try (refine gate_guard (by rfl) ?_; dsimp only)); at_builtin; refine Kd.R_append (Kd.int .i64) (w0 := w) w.heap.size rfl (.tmp 33) (.tmp 35) 131 3 (.int .i64 0) 8 rfl Tryz.underlying131 info3 rfl (by decide) (by omega) u9 x9_1 x1_1 [.int .i64 x1_1] (fun _ => True) (fun _ => False) rfl rfl ?aP (fun _ hk => hk.elim) ?aF ?aO ?aB ?aS ?aL ?_; (case aP => exact rfl); (case aB => exact bq0_); (case aF => exact (fun _ _ => trivial)); (case aO => exact (kR_ HO_9.out)); (case aS => exact (below_size bq0_)); (case aL => have := LMc39.out; omega); intro v266 w46 ho hb hg hat; rw [← Ny265.out] at ho; replace HO_8 := a0_ (Kd.R_over' (kR_ HO_8.out) (Kd.R_typed (kR_ HO_9.out)) (by decide) hg); replace HB := a0_ (hb); have HO267 := a0_ (ho); clear HO_9; clear ho hb hg hat) | ((with_reducible refine gate_callee (f := 176) rfl ?_); refine goesL_ (some 46) rfl rfl Tryz.func176 (by kernel_rfl) rfl #[.string (a0.extract ((ji40) : Int).toNat ((wrap64 ((ji40) + (wrap64 (bt a0 x1_1)))) : Int).toNat)] rfl (by (try simp only [List.map_toArray, List.map_cons, List.map_nil]); first | done | (simp only [hji40]; rfl) | rfl | (simp only [List.length_drop, List.length_take]; rfl)) ?_; (with_reducible refine (impl_small.calls (a0.extract ((ji40) : Int).toNat ((wrap64 ((ji40) + (wrap64 (bt a0 x1_1)))) : Int).toNat) t268 _ A44.out).mono ?_); rintro e w47 ⟨rfl, hb⟩; refine ⟨_, rfl, ?_⟩; replace HO_8 := a0_ (Kd.R_below (kR_ HO_8.out) hb); replace HO267 := a0_ (Kd.R_below (kR_ HO267.out) hb); replace HB := a0_ (below_step bq0_ hb); clear hb) | ((with_reducible refine gate_builtin (b := .append) (xs := #[.tmp 37, .tmp 47]) rfl ?_); (try (refine gate_guard (by rfl) ?_; dsimp only)); at_builtin; refine Kd.R_append Kd.string (w0 := w) w.heap.size rfl (.tmp 37) (.tmp 47) 78 9 (.string ⟨#[]⟩) 16 rfl Tryz.underlying78 info9 rfl (by decide) (by omega) u8 x8_1 t268 [.string t268] (fun _ => True) (fun _ => False) rfl rfl ?aP (fun _ hk => hk.elim) ?aF ?aO ?aB ?aS ?aL ?_; (case aP => exact rfl); (case aB => exact bq0_); (case aF => exact (fun _ _ => trivial)); (case aO => exact (kR_ HO_8.out)); (case aS => exact (below_size bq0_)); (case aL => have := LMc45.out; omega); intro v270 w48 ho hb hg hat; rw [← Ny269.out] at ho; replace HO267 := a0_ (Kd.R_over' (kR_ HO267.out) (Kd.R_typed (kR_ HO_8.out)) (by decide) hg); replace HB := a0_ (hb); have HO271 := a0_ (ho); clear HO_8; clear ho hb hg hat))
       go_roundg kj34
       case measure => have := HK1.out; have := HJ6.out; have := HJ34.out; omega
       case rel => exact ⟨(wrap64 (x1_1 + (wrap64 (1 + (wrap64 (bt a0 x1_1)))))), (y269), (y265), (x10_1), (x11_1), rs_, rs_, rs_, H', jn_ HK1 HJ6 HJ34, ⟨kR_ HO271.out⟩, ⟨kR_ HO267.out⟩, ⟨bq0_⟩⟩
end Go.Proofs.YtiegkjimpclmaaaGreatDoor.P
