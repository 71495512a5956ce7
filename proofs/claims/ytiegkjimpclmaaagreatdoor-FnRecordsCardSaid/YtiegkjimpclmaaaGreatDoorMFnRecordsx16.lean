/- FnRecords: part 17 of 29 of my texts for this claim, joined; the theorem stands in the last. Conditions: none beyond the statement's. -/
import Derived.Lib.AtoiTie
import Derived.Lib.ItoaMem
import Derived.Test.YtiegkjimpclmaaaGreatDoorMFnRecordsx14
import Derived.Test.YtiegkjimpclmaaaGreatDoorMFnRecordsx15
namespace Go.Proofs.YtiegkjimpclmaaaGreatDoor.Pure
open Go.RowKit Go.Proofs.YtiegkjimpclmaaaGreatDoor.P Go.Proofs.YtiegkjimpclmaaaGreatDoorW.PrintWords Go.Proofs.YtiegkjimpclmaaaGreatDoorW.PrintLast Go.Proofs.YtiegkjimpclmaaaGreatDoorW.PrintMore
set_option linter.unusedVariables false
set_option linter.unusedSimpArgs false
def digB (b : UInt8) : Bool := decide (48 ≤ b.toNat ∧ b.toNat ≤ 57)
def valF (a : Nat) (l : List UInt8) : Nat := l.foldl (fun a b => a * 10 + (b.toNat - 48)) a
def valL (l : List UInt8) : Nat := valF 0 l
def canL (l : List UInt8) : Bool := decide (1 ≤ l.length ∧ l.length ≤ 10) && l.all digB && (decide (l.length = 1) || decide (l.head? ≠ some 48))
theorem valF_app (a : Nat) (p q : List UInt8) : valF a (p ++ q) = valF (valF a p) q := by unfold valF; rw [List.foldl_append]
theorem valF_one (a : Nat) (b : UInt8) : valF a [b] = a * 10 + (b.toNat - 48) := rfl
theorem decFrom_val : ∀ (l : List UInt8) (a : Nat), l.all digB = true → Lib.decFrom a l = some (valF a l)
 | [], a, _ => rfl
 | b :: r, a, h => by
  rw [List.all_cons, Bool.and_eq_true] at h
  have hb : 48 ≤ b.toNat ∧ b.toNat ≤ 57 := of_decide_eq_true h.1
  unfold Lib.decFrom Lib.digitVal
  rw [if_pos hb]
  exact decFrom_val r _ h.2
theorem valF_lt : ∀ (l : List UInt8) (a : Nat), l.all digB = true → valF a l < (a + 1) * 10 ^ l.length
 | [], a, _ => by show a < (a + 1) * 10 ^ 0; omega
 | b :: r, a, h => by
  rw [List.all_cons, Bool.and_eq_true] at h
  have hb : 48 ≤ b.toNat ∧ b.toNat ≤ 57 := of_decide_eq_true h.1
  have ih := valF_lt r (a * 10 + (b.toNat - 48)) h.2
  show valF (a * 10 + (b.toNat - 48)) r < _
  rw [List.length_cons, Nat.pow_succ]
  have h1 : (a * 10 + (b.toNat - 48) + 1) * 10 ^ r.length ≤ ((a + 1) * 10) * 10 ^ r.length := Nat.mul_le_mul_right _ (by omega)
  have h2 : ((a + 1) * 10) * 10 ^ r.length = (a + 1) * (10 ^ r.length * 10) := by rw [Nat.mul_assoc, Nat.mul_comm 10]
  omega
theorem digits_all : ∀ (n u : Nat), u ≤ n → (Lib.decDigits u).all digB = true ∧ valL (Lib.decDigits u) = u ∧ 1 ≤ (Lib.decDigits u).length ∧ (1 ≤ u → (Lib.decDigits u).head? ≠ some 48)
 | n, u, hu => by
  unfold Lib.decDigits
  by_cases h : u < 10
  · rw [dif_pos h]
    have hb : (UInt8.ofNat (48 + u)).toNat = 48 + u := by rw [UInt8.toNat_ofNat']; omega
    refine ⟨?_, ?_, by simp, fun h1 => ?_⟩
    · rw [List.all_cons, List.all_nil, Bool.and_true]; unfold digB; rw [hb]; exact decide_eq_true (by omega)
    · show 0 * 10 + ((UInt8.ofNat (48 + u)).toNat - 48) = u; rw [hb]; omega
    · intro e
      have e2 := congrArg UInt8.toNat (Option.some.inj e)
      rw [hb] at e2
      have : (48 : UInt8).toNat = 48 := rfl
      omega
  · rw [dif_neg h]
    match n, hu with
    | 0, hu => omega
    | n + 1, hu =>
     obtain ⟨g1, g2, g3, g4⟩ := digits_all n (u / 10) (by omega)
     have hb : (UInt8.ofNat (48 + u % 10)).toNat = 48 + u % 10 := by rw [UInt8.toNat_ofNat']; omega
     refine ⟨?_, ?_, by rw [List.length_append]; omega, fun _ => ?_⟩
     · rw [List.all_append, g1, Bool.true_and, List.all_cons, List.all_nil, Bool.and_true]; unfold digB; rw [hb]; exact decide_eq_true (by omega)
     · unfold valL at g2 ⊢; rw [valF_app, g2, valF_one, hb]; omega
     · have g5 := g4 (by omega)
       cases hd : Lib.decDigits (u / 10) with
       | nil => rw [hd] at g3; simp at g3
       | cons x r => rw [hd] at g5; simpa using g5
theorem digits_back : ∀ (n : Nat) (l : List UInt8), l.length ≤ n → l ≠ [] → l.all digB = true → (l.length = 1 ∨ l.head? ≠ some 48) → Lib.decDigits (valL l) = l
 | n, l, hn, hne, ha, hh => by
  rcases List.eq_nil_or_concat l with rfl | ⟨p, b, rfl⟩
  · exact absurd rfl hne
  · rw [List.concat_eq_append] at *
    rw [List.all_append, Bool.and_eq_true, List.all_cons, Bool.and_eq_true] at ha
    have hb : 48 ≤ b.toNat ∧ b.toNat ≤ 57 := of_decide_eq_true ha.2.1
    have hv : valL (p ++ [b]) = valL p * 10 + (b.toNat - 48) := by unfold valL; rw [valF_app, valF_one]
    have hbb : UInt8.ofNat (48 + (b.toNat - 48)) = b := by rw [show 48 + (b.toNat - 48) = b.toNat by omega]; exact UInt8.ofNat_toNat
    rw [hv]
    by_cases hp : p = []
    · subst hp
      unfold Lib.decDigits
      rw [show valL [] = 0 from rfl, dif_pos (by omega), Nat.zero_mul, Nat.zero_add, hbb]
      rfl
    · match n, hn with
      | 0, hn => simp at hn
      | n + 1, hn =>
       have hpl := List.length_pos_iff.2 hp
       have hhp : p.head? ≠ some 48 := by
        rcases hh with hh | hh
        · rw [List.length_append] at hh; simp at hh; exact absurd hh hp
        · cases p with
          | nil => exact absurd rfl hp
          | cons x r => simpa using hh
       have ih := digits_back n p (by simp at hn; omega) hp ha.1 (.inr hhp)
       have hpos : 1 ≤ valL p := by
        cases p with
        | nil => exact absurd rfl hp
        | cons x r =>
         rw [List.all_cons, Bool.and_eq_true] at ha
         have hx : 48 ≤ x.toNat ∧ x.toNat ≤ 57 := of_decide_eq_true ha.1.1
         have hx2 : x.toNat ≠ 48 := fun e => hhp (by show some x = some 48; rw [show x = 48 from UInt8.toNat_inj.1 e])
         have mono : ∀ (r : List UInt8) (a : Nat), a ≤ valF a r := by
          intro r
          induction r with
          | nil => intro a; exact Nat.le_refl _
          | cons y r ihr => intro a; have := ihr (a * 10 + (y.toNat - 48)); show a ≤ valF (a * 10 + (y.toNat - 48)) r; omega
         have := mono r (0 * 10 + (x.toNat - 48))
         show 1 ≤ valF (0 * 10 + (x.toNat - 48)) r
         omega
       unfold Lib.decDigits
       rw [dif_neg (by omega), show (valL p * 10 + (b.toNat - 48)) / 10 = valL p by omega, show (valL p * 10 + (b.toNat - 48)) % 10 = b.toNat - 48 by omega, ih, hbb]
theorem can_val {l : List UInt8} (h : canL l = true) : valL l < 10000000000 := by
 unfold canL at h
 simp only [Bool.and_eq_true, decide_eq_true_eq] at h
 have h1 := valF_lt l 0 h.1.2
 have h2 : 10 ^ l.length ≤ 10 ^ 10 := Nat.pow_le_pow_right (by omega) h.1.1.2
 unfold valL
 omega
theorem digits_many : ∀ (k u : Nat), k + 1 < Lib.nDigits u → 10 ^ (k + 1) ≤ u
 | 0, u, h => by
  by_cases hu : u < 10
  · rw [Lib.nDigits_small hu] at h; omega
  · omega
 | k + 1, u, h => by
  by_cases hu : u < 10
  · rw [Lib.nDigits_small hu] at h; omega
  · rw [Lib.nDigits_big hu] at h
    have ih := digits_many k (u / 10) (by omega)
    rw [Nat.pow_succ]
    omega
theorem number_eq (s : ByteArray) (most : Int) (hs : s.size ≤ 281474976710656) (h0 : 0 ≤ most) (h1 : most < 9999999999) : ∃ v, impl_numberIn.f s most = some (v, canL s.data.toList && decide ((valL s.data.toList : Int) ≤ most)) ∧ ((canL s.data.toList && decide ((valL s.data.toList : Int) ≤ most)) = true → v = (valL s.data.toList : Int)) := by
 unfold impl_numberIn.f
 rw [if_pos hs, Lib.toList_data]
 generalize hl : s.data.toList = l
 by_cases hc : canL l = true
 · have hc' := hc
   unfold canL at hc'
   simp only [Bool.and_eq_true, Bool.or_eq_true, decide_eq_true_eq] at hc'
   have hv := can_val hc
   have hne : l ≠ [] := by rintro rfl; simp at hc'
   have hat : Lib.atoiAll l = .ok (valL l : Int) := by
    rw [Lib.atoiAll_short l (by omega)]
    cases l with
    | nil => exact absurd rfl hne
    | cons b r =>
     have ha := hc'.1.2
     rw [List.all_cons, Bool.and_eq_true] at ha
     have hb : 48 ≤ b.toNat ∧ b.toNat ≤ 57 := of_decide_eq_true ha.1
     have n45 : (b == 45) = false := beq_eq_false_iff_ne.mpr fun e => by rw [e] at hb; have : (45 : UInt8).toNat = 45 := rfl; omega
     have n43 : (b == 43) = false := beq_eq_false_iff_ne.mpr fun e => by rw [e] at hb; have : (43 : UInt8).toNat = 43 := rfl; omega
     unfold Lib.atoi Lib.decNat
     show Lib.NumEnd.ofOption (if (b == 45) = true then _ else (if (b == 43) = true then _ else Option.map (fun (m : Nat) => (m : Int)) (if (b :: r).isEmpty = true then none else Lib.decFrom 0 (b :: r)))) = _
     rw [n45, n43, if_neg (by simp), if_neg (by simp), if_neg (by simp), decFrom_val _ 0 hc'.1.2]
     rfl
   have hit : Lib.itoa (valL l : Int) = l := by
    rw [Lib.itoa_nonneg]
    exact digits_back l.length l (Nat.le_refl _) hne hc'.1.2 hc'.2
   rw [hat]
   refine ⟨(valL l : Int), ?_, fun _ => rfl⟩
   simp only [hit, beq_self_eq_true, Bool.and_true, hc, Bool.true_and]
   congr 2
   rw [decide_eq_decide]
   omega
 · rw [Bool.eq_false_iff.mpr hc, Bool.false_and]
   cases ha : Lib.atoiAll l
   · next v =>
     refine ⟨v, ?_, fun h => by cases h⟩
     show some (v, decide (0 ≤ v ∧ v ≤ most) && (Lib.itoa v == l)) = some (v, false)
     congr 2
     rw [Bool.and_eq_false_iff]
     by_cases hv : 0 ≤ v ∧ v ≤ most
     · right
       rw [beq_eq_false_iff_ne]
       intro e
       apply hc
       obtain ⟨u, rfl⟩ : ∃ u : Nat, v = (u : Int) := ⟨v.toNat, by omega⟩
       rw [Lib.itoa_nonneg] at e
       obtain ⟨g1, g2, g3, g4⟩ := digits_all u u (Nat.le_refl _)
       have hlen : (Lib.decDigits u).length ≤ 10 := by
        rw [Lib.decDigits_length]
        by_cases h10 : u < 10
        · rw [Lib.nDigits_small h10]; omega
        · by_cases hbig : Lib.nDigits u ≤ 10
          · exact hbig
          · have := digits_many 9 u (by omega)
            omega
       rw [← e]
       unfold canL
       rw [g1, decide_eq_true (by omega), Bool.true_and, Bool.true_and, Bool.or_eq_true]
       by_cases hu : 1 ≤ u
       · exact .inr (decide_eq_true (g4 hu))
       · left
         obtain rfl : u = 0 := by omega
         rw [Lib.decDigits_one (by omega)]
         rfl
     · left
       exact decide_eq_false hv
   · exact ⟨0, rfl, fun h => by cases h⟩
   · exact ⟨_, rfl, fun h => by cases h⟩
def numS (l : List UInt8) : Int := if canL l = true then (valL l : Int) else -1
theorem int_loop (s : ByteArray) (hs : s.size ≤ 10) : ∀ (m i a : Nat), i + m = s.size → a = valL (s.data.toList.take i) → (s.data.toList.take i).all digB = true →
 Ev (fun k => spec_l1Int.l0 k s (a : Int) (i : Int)) (if s.data.toList.all digB = true then (valL s.data.toList : Int) else -1)
 | 0, i, a, him, ha, hd => by
  rw [List.take_of_length_le (by rw [← size_len]; omega)] at ha hd
  rw [if_pos hd, ← ha]
  refine Ev.step (f := fun _ => some (a : Int)) (fun k => ?_) (Ev.now _)
  show spec_l1Int.l0 (k + 1) s (a : Int) (i : Int) = _
  conv => lhs; unfold spec_l1Int.l0
  rw [if_neg (by omega)]
 | m + 1, i, a, him, ha, hd => by
  have hi : i < s.data.toList.length := by rw [← size_len]; omega
  have hbt := bt_list s i hi
  have htk : s.data.toList.take (i + 1) = s.data.toList.take i ++ [s.data.toList[i]] := by rw [List.take_add_one, List.getElem?_eq_getElem hi]; rfl
  have halt : a < 10 ^ 10 := by
   have := valF_lt _ 0 hd
   have h2 : 10 ^ (s.data.toList.take i).length ≤ 10 ^ 10 := Nat.pow_le_pow_right (by omega) (by rw [List.length_take]; omega)
   rw [ha]
   unfold valL
   omega
  by_cases hb : digB s.data.toList[i] = true
  · have hb' : 48 ≤ (s.data.toList[i]).toNat ∧ (s.data.toList[i]).toNat ≤ 57 := of_decide_eq_true hb
    have ih := int_loop s hs m (i + 1) (a * 10 + ((s.data.toList[i]).toNat - 48)) (by omega) (by rw [htk]; unfold valL at ha ⊢; rw [valF_app, ← ha, valF_one]) (by rw [htk, List.all_append, hd, Bool.true_and, List.all_cons, hb]; rfl)
    refine Ev.step (fun k => ?_) ih
    show spec_l1Int.l0 (k + 1) s (a : Int) (i : Int) = _
    conv => lhs; unfold spec_l1Int.l0
    have hw : wrap64 ((wrap64 (10 * (a : Int))) + ((((s.data.toList[i]).toNat : Int) - 48) % 256)) = ((a * 10 + ((s.data.toList[i]).toNat - 48) : Nat) : Int) := by
     have h1 : wrap64 (10 * (a : Int)) = 10 * (a : Int) := by unfold wrap64; omega
     rw [h1]
     unfold wrap64
     omega
    rw [if_pos (by omega), if_pos (by omega), hbt, if_neg (by omega), if_neg (by omega), hw, w64n (by omega)]
  · have hall : s.data.toList.all digB = false := by
     rw [List.all_eq_false]
     exact ⟨_, List.getElem_mem hi, hb⟩
    rw [hall, if_neg (by simp)]
    have hb' : ¬ (48 ≤ (s.data.toList[i]).toNat ∧ (s.data.toList[i]).toNat ≤ 57) := of_decide_eq_false (Bool.eq_false_iff.mpr hb)
    refine Ev.step (f := fun _ => some (-1)) (fun k => ?_) (Ev.now _)
    show spec_l1Int.l0 (k + 1) s (a : Int) (i : Int) = _
    conv => lhs; unfold spec_l1Int.l0
    rw [if_pos (by omega), if_pos (by omega), hbt]
    by_cases h1 : ((s.data.toList[i]).toNat : Int) < 48
    · rw [if_pos h1]
    · rw [if_neg h1, if_pos (by omega)]
theorem int_ev (s : ByteArray) (hs : s.size < 4611686018427387904) : Ev (fun k => spec_l1Int.f k s) (numS s.data.toList) := by
 have hj : Ev (fun k => spec_l1Int.j0 k s true) (-1) := Ev.step (f := fun _ => some (-1)) (fun k => rfl) (Ev.now _)
 have hin : spec_l1In.f (s.size : Int) 1 10 = some (decide (1 ≤ (s.size : Int) ∧ (s.size : Int) ≤ 10)) := within_spec _ _ _
 by_cases h1 : 1 ≤ (s.size : Int) ∧ (s.size : Int) ≤ 10
 · have hlen : 0 < s.data.toList.length := by rw [← size_len]; omega
   have hbt := bt_list s 0 hlen
   have hmain : ∀ ld : Bool, ld = decide (s.data.toList.head? = some 48 ∧ s.size > 1) → Ev (fun k => spec_l1Int.j0 k s ld) (numS s.data.toList) := by
    intro ld hld
    cases ld with
    | true =>
     have h2 := of_decide_eq_true hld.symm
     have : canL s.data.toList = false := by
      unfold canL
      rw [decide_eq_false (show ¬ s.data.toList.length = 1 by rw [← size_len]; omega), decide_eq_false (show ¬ s.data.toList.head? ≠ some 48 from fun h => h h2.1), Bool.or_false, Bool.and_false]
     unfold numS
     rw [this, if_neg (by simp)]
     exact hj
    | false =>
     have h2 := of_decide_eq_false hld.symm
     have hl := int_loop s (by omega) s.size 0 0 (by omega) rfl rfl
     have e : (if s.data.toList.all digB = true then (valL s.data.toList : Int) else -1) = numS s.data.toList := by
      unfold numS canL
      rw [decide_eq_true (show 1 ≤ s.data.toList.length ∧ s.data.toList.length ≤ 10 by rw [← size_len]; omega), Bool.true_and]
      have h3 : (decide (s.data.toList.length = 1) || decide (s.data.toList.head? ≠ some 48)) = true := by
       rw [Bool.or_eq_true]
       by_cases h4 : s.data.toList.head? = some 48
       · exact .inl (decide_eq_true (by rw [← size_len]; have : ¬ s.size > 1 := fun h5 => h2 ⟨h4, h5⟩; omega))
       · exact .inr (decide_eq_true h4)
      rw [h3, Bool.and_true]
     rw [← e]
     exact Ev.step (fun k => rfl) hl
   have hhead : s.data.toList.head? = some (s.data.toList[0]) := by rw [List.head?_eq_getElem?, List.getElem?_eq_getElem hlen]
   refine Ev.congr (f := fun k => spec_l1Int.j0 k s (decide (s.data.toList.head? = some 48 ∧ s.size > 1))) (fun k => ?_) (hmain _ rfl)
   unfold spec_l1Int.f
   rw [hin, Option.bind_some, decide_eq_true h1, if_pos rfl, if_pos (by omega)]
   have hb0 : bt s 0 = ((s.data.toList[0]).toNat : Int) := hbt
   rw [hb0, hhead]
   by_cases h48 : s.data.toList[0] = 48
   · rw [if_pos (by rw [h48]; rfl)]
     congr 1
     rw [decide_eq_decide]
     constructor
     · intro h; exact ⟨by rw [h48], by omega⟩
     · intro h; omega
   · rw [if_neg (fun h => h48 (UInt8.toNat_inj.1 (by have : (48 : UInt8).toNat = 48 := rfl; omega)))]
     congr 1
     rw [eq_comm, decide_eq_false_iff_not]
     rintro ⟨h, _⟩
     exact h48 (Option.some.inj h)
 · have : canL s.data.toList = false := by
    unfold canL
    rw [decide_eq_false (show ¬ (1 ≤ s.data.toList.length ∧ s.data.toList.length ≤ 10) by rw [← size_len]; omega)]
    rfl
   unfold numS
   rw [this, if_neg (by simp)]
   refine Ev.congr (fun k => ?_) hj
   unfold spec_l1Int.f
   rw [hin, Option.bind_some, decide_eq_false h1, if_neg (by simp)]
end Go.Proofs.YtiegkjimpclmaaaGreatDoor.Pure
namespace Go.Proofs.YtiegkjimpclmaaaGreatDoor.P
open Go.RowKit Go.Proofs.YtiegkjimpclmaaaGreatDoorW.PrintWords Go.Proofs.YtiegkjimpclmaaaGreatDoorW.PrintLast Go.Proofs.YtiegkjimpclmaaaGreatDoorW.PrintMore
set_option linter.unusedVariables false
set_option linter.unusedSimpArgs false
def lowB (b : UInt8) : UInt8 := if 65 ≤ b.toNat ∧ b.toNat ≤ 90 then b + 32 else b
def lowV (s : ByteArray) (j : Nat) : Int := ((lowB (s.data.toList.getD j 0)).toNat : Int)
def SmallAt (w : World) (g : Nat) (s : ByteArray) (kk : Nat) : Prop :=
 ∃ cs e fz, w.heap[g]? = some (.cells cs e fz) ∧ s.size ≤ fz.1 ∧ s.size ≤ cs.size ∧
  ∀ j, j < s.size → cs[j]? = some (.int .u8 (if j < kk then lowV s j else ((s.data.toList.getD j 0).toNat : Int)))
theorem SmallAt.cell {w : World} {g : Nat} {s : ByteArray} {kk : Nat} (h : SmallAt w g s kk) (j : Nat) (hj : j < s.size) : w.cell? ⟨g, j, none⟩ = some (.int .u8 (if j < kk then lowV s j else ((s.data.toList.getD j 0).toNat : Int))) := by
 obtain ⟨cs, e, fz, h1, h2, h3, h4⟩ := h
 simp [World.cell?, h1, h4 j hj]
theorem SmallAt.free {w : World} {g : Nat} {s : ByteArray} {kk : Nat} (h : SmallAt w g s kk) (j : Nat) (hj : j < s.size) : w.frozen? ⟨g, j, none⟩ = false := by
 obtain ⟨cs, e, fz, h1, h2, h3, h4⟩ := h
 obtain ⟨lo, hi⟩ := fz
 simp only [World.frozen?, h1, Bool.and_eq_false_iff, decide_eq_false_iff_not]
 left
 simp only at h2
 omega
theorem smallAt_start (w : World) (e : TypeId) (s : ByteArray) : SmallAt (Lib.bytesWorld w e s) w.heap.size s 0 := by
 have hcs : s.size ≤ (Lib.bytesCells w e s).size := by
  unfold Lib.bytesCells
  rw [Array.size_append, Array.size_map]
  show s.size ≤ s.size + _
  omega
 refine ⟨_, _, _, Lib.bytesWorld_at_new w e s, hcs, hcs, fun j hj => ?_⟩
 rw [if_neg (Nat.not_lt_zero _)]
 simp [Lib.bytesCells, Array.getElem?_append, List.getD, hj]
theorem low_skip {b : UInt8} (h : ¬ (65 ≤ b.toNat ∧ b.toNat ≤ 90)) : lowB b = b := by unfold lowB; rw [if_neg h]
theorem low_hit {b : UInt8} (h1 : 65 ≤ b.toNat) (h2 : b.toNat ≤ 90) : ((lowB b).toNat : Int) = (b.toNat : Int) + 32 := by
 unfold lowB
 rw [if_pos ⟨h1, h2⟩, UInt8.toNat_add]
 show (((b.toNat + 32) % 256 : Nat) : Int) = _
 omega
theorem SmallAt.skip {w : World} {g : Nat} {s : ByteArray} {kk : Nat} (h : SmallAt w g s kk) (hk : ¬ (65 ≤ (s.data.toList.getD kk 0).toNat ∧ (s.data.toList.getD kk 0).toNat ≤ 90)) : SmallAt w g s (kk + 1) := by
 obtain ⟨cs, e, fz, h1, h2, h3, h4⟩ := h
 refine ⟨cs, e, fz, h1, h2, h3, fun j hj => ?_⟩
 rw [h4 j hj]
 by_cases e1 : j < kk
 · rw [if_pos e1, if_pos (by omega)]
 · rw [if_neg e1]
   by_cases e2 : j = kk
   · subst e2
     rw [if_pos (by omega)]
     unfold lowV
     rw [low_skip hk]
   · rw [if_neg (by omega)]
theorem SmallAt.step {w : World} {g : Nat} {s : ByteArray} {kk : Nat} (h : SmallAt w g s kk) (hlt : kk < s.size) (v : Int) (hv : v = lowV s kk) : SmallAt (w.setCell ⟨g, kk, none⟩ (.int .u8 v)) g s (kk + 1) := by
 obtain ⟨cs, e, fz, h1, h2, h3, h4⟩ := h
 subst hv
 refine ⟨_, e, fz, by rw [setCell_eq_setRow w g kk cs e fz _ h1]; exact setRow_heap w g cs _ e fz h1, h2, by simpa using h3, fun j hj => ?_⟩
 rw [Array.getElem?_setIfInBounds]
 by_cases e2 : kk = j
 · subst e2
   rw [if_pos rfl, if_pos (by omega), if_pos (by omega)]
 · rw [if_neg e2, h4 j hj]
   by_cases e1 : j < kk
   · rw [if_pos e1, if_pos (by omega)]
   · rw [if_neg e1, if_neg (by omega)]
theorem SmallAt.below {w0 w : World} {g : Nat} {s : ByteArray} {kk : Nat} (h : SmallAt w g s kk) (hb : Below w0.heap.size w0 w) (hg : w0.heap.size ≤ g) (v : Value) : Below w0.heap.size w0 (w.setCell ⟨g, kk, none⟩ v) := by
 obtain ⟨cs, e, fz, h1, h2, h3, h4⟩ := h
 rw [setCell_eq_setRow w g kk cs e fz _ h1]
 exact ⟨hb.os, hb.tape, hb.output, by rw [setRow_size]; exact hb.size, fun k hk => by rw [setRow_other w g k _ (by omega)]; exact hb.block k hk⟩
def lowNums (s : ByteArray) : List Int := (List.range s.size).map (lowV s)
theorem SmallAt.reads {w : World} {g : Nat} {s : ByteArray} (h : SmallAt w g s s.size) (hs : s.size < 1099511627776) : ReadsInt w .u8 (some ⟨g, 0, none⟩) s.size (lowNums s) := by
 refine ⟨by simp [lowNums], by omega, fun _ => ⟨_, rfl, fun j hj => ?_⟩⟩
 have := h.cell j hj
 rw [if_pos hj] at this
 rw [add_plain, this]
 simp [lowNums, List.getD_eq_getElem?_getD, hj]
theorem lowNums_str (s : ByteArray) : strOfNums (lowNums s) = mkB (s.data.toList.map lowB) := by
 apply ext_data
 rw [strOfNums_data, mkB_data]
 apply List.ext_getElem?
 intro j
 unfold lowNums lowV
 simp only [List.getElem?_map, List.map_map]
 by_cases hj : j < s.size
 · have hj2 : j < s.data.toList.length := by rw [← size_len]; exact hj
   rw [List.getElem?_range hj, List.getElem?_eq_getElem hj2]
   simp [List.getD_eq_getElem?_getD, List.getElem?_eq_getElem hj2]
   rw [Array.getElem?_eq_getElem (show j < s.data.size from hj)]
   rfl
 · rw [List.getElem?_eq_none (by rw [List.length_range]; omega), List.getElem?_eq_none (by rw [← size_len]; omega)]
   rfl
set_option maxHeartbeats 2000000 in
theorem small_walk (s : ByteArray) (hs : s.size < 1099511627776) (w : World) :
 Calls Tryz.prog 176 #[.string s] w fun e w' => e = .returned (.string (mkB (s.data.toList.map lowB))) ∧ Below w.heap.size w w' := by
 have kb := fun W => print_bytes (P := Tryz.prog) 9 43 5 Tryz.underlying9 Tryz.underlying43 Tryz.underlying5 s W
 go_enter Tryz.func176, Tryz.ntmps176
 go_wp2
 go_loopg [4, 5, 10] s.size (fun gg _ _ v10 wr => ∃ kk : Nat, kk ≤ s.size ∧ s.size - kk ≤ gg ∧ v10 = .int .i64 kk ∧ Aside0 (Below w.heap.size w wr) ∧ Aside0 (SmallAt wr w.heap.size s kk))
 case atStart => exact ⟨0, Nat.zero_le _, by omega, rfl, ⟨Go.Proofs.YtiegkjimpclmaaaGreatDoorW.PrintWords.bytes_below (Below.refl _ w) (Nat.le_refl _) _ s⟩, ⟨smallAt_start w _ s⟩⟩
 case round =>
  obtain ⟨kk, hkk, hg, rfl, BW, SA⟩ := hrel
  by_cases hlt : kk < s.size
  · have hltz : (kk : Int) < (s.size : Int) := by omega
    have hc := SA.out.cell kk hlt
    rw [if_neg (by omega)] at hc
    have hf := SA.out.free kk hlt
    have HV := Aside0.mk (show lowV s kk = ((lowB (s.data.toList.getD kk 0)).toNat : Int) from rfl)
    have HS := Aside0.mk (fun h => SA.out.skip (kk := kk) h)
    generalize s.data.toList.getD kk 0 = b at hc HV HS
    have hbl : b.toNat < 256 := b.toNat_lt
    by_cases h65 : 65 ≤ b.toNat
    · have h65d : decide ((65 : Int) ≤ (b.toNat : Int)) = true := decide_eq_true (by omega)
      by_cases h90 : b.toNat ≤ 90
      · have h90d : decide ((b.toNat : Int) ≤ 90) = true := decide_eq_true (by omega)
        go_wp2
        go_roundg (s.size - (kk + 1))
        case measure => omega
        case rel => exact ⟨kk + 1, by omega, by omega, by go_num, ⟨SA.out.below BW.out (Nat.le_refl _) _⟩, ⟨SA.out.step hlt _ (by rw [HV.out, low_hit h65 h90]; omega)⟩⟩
      · have h90d : decide ((b.toNat : Int) ≤ 90) = false := decide_eq_false (by omega)
        go_wp2
        go_roundg (s.size - (kk + 1))
        case measure => omega
        case rel => exact ⟨kk + 1, by omega, by omega, by go_num, BW, ⟨HS.out (by omega)⟩⟩
    · have h65d : decide ((65 : Int) ≤ (b.toNat : Int)) = false := decide_eq_false (by omega)
      go_wp2
      go_roundg (s.size - (kk + 1))
      case measure => omega
      case rel => exact ⟨kk + 1, by omega, by omega, by go_num, BW, ⟨HS.out (by omega)⟩⟩
  · have hltz : ¬ (kk : Int) < (s.size : Int) := by omega
    obtain rfl : kk = s.size := by omega
    have hst := fun c => string_of_reads (P := Tryz.prog) (src := 43) (dst := 9) (c := c) Tryz.underlying43 Tryz.underlying5 Tryz.underlying9 (SA.out.reads hs)
    rw [lowNums_str] at hst
    go_wp2
    go_ret
    exact ⟨rfl, BW.out⟩
def impl_small.f (s : ByteArray) : Option ByteArray := if s.size < 1099511627776 then some (mkB (s.data.toList.map lowB)) else none
theorem impl_small.calls (a0 : ByteArray) (r : ByteArray) (w : World) (h : impl_small.f a0 = some r) :
 Calls Tryz.prog 176 #[.string a0] w fun e w' => e = .returned (.string r) ∧ Below w.heap.size w w' := by
 unfold impl_small.f at h
 by_cases hs : a0.size < 1099511627776
 · rw [if_pos hs] at h
   obtain rfl := Option.some.inj h
   exact small_walk a0 hs w
 · rw [if_neg hs] at h
   cases h
def foldR (s : ByteArray) : ByteArray × Bool := if s.size ≤ 60 then (if goodL (s.data.toList.map lowB) = true then (mkB (s.data.toList.map lowB), true) else ((⟨#[]⟩ : ByteArray), false)) else ((⟨#[]⟩ : ByteArray), false)
def spec_FoldName.f (s : ByteArray) : Option (ByteArray × Bool) := some (foldR s)
theorem foldGood_calls (t : ByteArray) (ht : t.size ≤ 60) (W : World) : Calls Tryz.prog 127 #[.string t] W fun e W' => e = .returned (.bool (goodL t.data.toList)) ∧ Below W.heap.size W W' := by
 obtain ⟨k, hk⟩ := (Pure.specGood_ev t (by omega)).rounds
 exact spec_GoodName.calls k t _ W hk
set_option maxHeartbeats 4000000 in
theorem spec_FoldName.calls (a0 : ByteArray) (r1 : ByteArray) (r2 : Bool) (w : World) (h : spec_FoldName.f a0 = some (r1, r2)) :
 Calls Tryz.prog 169 #[.string a0] w fun e w' => e = .returned (.tuple #[.string r1, .bool r2]) ∧ Below w.heap.size w w' := by
 have HR := Aside0.mk (Option.some.inj h)
 clear h
 unfold foldR at HR
 by_cases h60 : a0.size ≤ 60
 · have h60d : decide ((60 : Int) < (a0.size : Int)) = false := decide_eq_false (by omega)
   have h60e : decide (60 < a0.size) = false := decide_eq_false (by omega)
   rw [if_pos h60] at HR
   have hs : a0.size < 1099511627776 := by omega
   have HS60 := Aside0.mk h60
   clear h60
   have gc := fun W => foldGood_calls (mkB (a0.data.toList.map lowB)) (by rw [mkB_size, List.length_map, ← size_len]; exact HS60.out) W
   rw [mkB_data] at gc
   generalize goodL (a0.data.toList.map lowB) = gd at gc HR
   have kb := fun W => print_bytes (P := Tryz.prog) 9 43 5 Tryz.underlying9 Tryz.underlying43 Tryz.underlying5 a0 W
   go_enter Tryz.func169, Tryz.ntmps169
   go_wp2
   go_loopg [5, 6, 14] a0.size (fun gg _ _ v10 wr => ∃ kk : Nat, kk ≤ a0.size ∧ a0.size - kk ≤ gg ∧ v10 = .int .i64 kk ∧ Aside0 (Below w.heap.size w wr) ∧ Aside0 (SmallAt wr w.heap.size a0 kk))
   case atStart => exact ⟨0, Nat.zero_le _, by omega, rfl, ⟨Go.Proofs.YtiegkjimpclmaaaGreatDoorW.PrintWords.bytes_below (Below.refl _ w) (Nat.le_refl _) _ a0⟩, ⟨smallAt_start w _ a0⟩⟩
   case round =>
    obtain ⟨kk, hkk, hg, rfl, BW, SA⟩ := hrel
    by_cases hlt : kk < a0.size
    · clear gc
      have hltz : (kk : Int) < (a0.size : Int) := by omega
      have hc := SA.out.cell kk hlt
      rw [if_neg (by omega)] at hc
      have hf := SA.out.free kk hlt
      have HV := Aside0.mk (show lowV a0 kk = ((lowB (a0.data.toList.getD kk 0)).toNat : Int) from rfl)
      have HS := Aside0.mk (fun h => SA.out.skip (kk := kk) h)
      generalize a0.data.toList.getD kk 0 = b at hc HV HS
      have hbl : b.toNat < 256 := b.toNat_lt
      by_cases h65 : 65 ≤ b.toNat
      · have h65d : decide ((65 : Int) ≤ (b.toNat : Int)) = true := decide_eq_true (by omega)
        by_cases h90 : b.toNat ≤ 90
        · have h90d : decide ((b.toNat : Int) ≤ 90) = true := decide_eq_true (by omega)
          go_wp2
          go_roundg (a0.size - (kk + 1))
          case measure => omega
          case rel => exact ⟨kk + 1, by omega, by omega, by go_num, ⟨SA.out.below BW.out (Nat.le_refl _) _⟩, ⟨SA.out.step hlt _ (by rw [HV.out, low_hit h65 h90])⟩⟩
        · have h90d : decide ((b.toNat : Int) ≤ 90) = false := decide_eq_false (by omega)
          go_wp2
          go_roundg (a0.size - (kk + 1))
          case measure => omega
          case rel => exact ⟨kk + 1, by omega, by omega, by go_num, BW, ⟨HS.out (by omega)⟩⟩
      · have h65d : decide ((65 : Int) ≤ (b.toNat : Int)) = false := decide_eq_false (by omega)
        go_wp2
        go_roundg (a0.size - (kk + 1))
        case measure => omega
        case rel => exact ⟨kk + 1, by omega, by omega, by go_num, BW, ⟨HS.out (by omega)⟩⟩
    · have hltz : ¬ (kk : Int) < (a0.size : Int) := by omega
      obtain rfl : kk = a0.size := by omega
      have hst := fun c => string_of_reads (P := Tryz.prog) (src := 43) (dst := 9) (c := c) Tryz.underlying43 Tryz.underlying5 Tryz.underlying9 (SA.out.reads hs)
      rw [lowNums_str] at hst
      have hst2 := Aside0.mk (fun W hb c => string_of_reads (P := Tryz.prog) (src := 43) (dst := 9) (c := c) Tryz.underlying43 Tryz.underlying5 Tryz.underlying9 ((SA.out.reads hs).below (w1 := W) hb))
      cases gd with
      | true =>
       obtain ⟨rfl, rfl⟩ := Prod.mk.inj HR.out
       clear HR
       go_wp2_with (first | (go_at_call 127; refine (gc _).mono ?_; rintro e w1 ⟨rfl, hb⟩; have hst3 := hst2.out w1 hb; rw [lowNums_str] at hst3))
       go_ret2
       exact ⟨rfl, below_then BW.out BW.out.size hb⟩
      | false =>
       obtain ⟨rfl, rfl⟩ := Prod.mk.inj HR.out
       clear HR
       go_wp2_with (first | (go_at_call 127; refine (gc _).mono ?_; rintro e w1 ⟨rfl, hb⟩; have hst3 := hst2.out w1 hb; rw [lowNums_str] at hst3))
       go_ret2
       exact ⟨rfl, below_then BW.out BW.out.size hb⟩
 · have h60d : decide ((60 : Int) < (a0.size : Int)) = true := decide_eq_true (by omega)
   have h60e : decide (60 < a0.size) = true := decide_eq_true (by omega)
   rw [if_neg h60] at HR
   obtain ⟨rfl, rfl⟩ := Prod.mk.inj HR.out
   clear HR
   go_enter Tryz.func169, Tryz.ntmps169
   go_wp2
   go_ret2
   exact ⟨rfl, Below.refl _ _⟩
end Go.Proofs.YtiegkjimpclmaaaGreatDoor.P
namespace Go.Proofs.YtiegkjimpclmaaaGreatDoor.P
open Go.RowKit Go.Proofs.YtiegkjimpclmaaaGreatDoorW.PrintWords Go.Proofs.YtiegkjimpclmaaaGreatDoorW.PrintLast Go.Proofs.YtiegkjimpclmaaaGreatDoorW.PrintMore
attribute [local go_sem] max2_int min2_int max_two min_two max_three min_three max_four min_four
set_option linter.unusedVariables false
set_option linter.unusedSimpArgs false
def impl_GoodRecord.f (k : Nat) (a0_0 : ByteArray) (a0_1 : Int) (a0_2 : Int) (a0_3 : ByteArray) : Option (Bool) := (impl_GoodName.f a0_0).bind fun t398 => (if t398 = true then ((impl_within.f a0_2 0 100000).bind fun t399 => (if t399 = true then (if (a0_3.size : Int) > 100 then (some false) else ((impl_DataBytes.f k a0_1 a0_3).bind fun bt400 => (some bt400.2))) else (some false))) else (some false))
set_option maxHeartbeats 8000000 in
set_option maxRecDepth 100000 in
theorem impl_GoodRecord.calls (k : Nat) (a0_0 : ByteArray) (a0_1 : Int) (a0_2 : Int) (a0_3 : ByteArray) (r : Bool) (w : World) (h : impl_GoodRecord.f k a0_0 a0_1 a0_2 a0_3 = some r) (hv_ : Vars w := by exact vv_) :
 Calls Tryz.prog 29 #[.agg #[.string a0_0, .int .i64 a0_1, .int .i64 a0_2, .string a0_3]] w fun e w' => e = .returned (.bool r) ∧ Below w.heap.size w w' := by
 have HV_ := a0_ hv_
 clear hv_
 have hu45 := Tryz.underlying45
 have HB := a0_ (Below.refl w.heap.size w)
 have H := h
 clear h
 unfold impl_GoodRecord.f at H
 obtain ⟨t398, A20, H⟩ := Option.bind_eq_some_iff.mp H
 have A2 := a0_ A20
 clear A20
 by_cases c3 : t398 = true
 case neg =>
  replace c3 := Bool.eq_false_iff.mpr c3
  subst c3
  rw [if_neg (show ¬ (false = true) by decide)] at H
  obtain rfl := Option.some.inj H
  go_enter Tryz.func29, Tryz.ntmps29
  go_wp2_with (first | ((with_reducible refine gate_dst (N := 1) rfl ?_); (try (refine gate_guard (by rfl) ?_; dsimp only)); refine boxS_ 1 #[.string a0_0, .int .i64 a0_1, .int .i64 a0_2, .string a0_3] 45 (fun gb397 hg w21 hbox hb => ?_); have n0_ := a0_ (below_step bq0_ hb); have n1_ := a0_ (hbox); have n2_ := a0_ (gw_ hg : w.heap.size ≤ gb397); have n3_ := n2_; clear HB; have HB := n0_; have BK397 := n1_; have GW397 := n2_; have GE397 := n3_; clear n0_ n1_ n2_ n3_; clear hb hbox hg; obtain ⟨z22_0, z22_1, z22_2, z22_3, q22_0, q22_1, q22_2, q22_3⟩ := bk4_ BK397.out) | ((with_reducible refine gate_callee (f := 83) rfl ?_); refine goesL_ (some 7) rfl rfl Tryz.func83 (by kernel_rfl) rfl #[.string a0_0] rfl argsS_ ?_; (with_reducible refine (impl_GoodName.calls a0_0 false _ A2.out).mono ?_); rintro e w23 ⟨rfl, hb⟩; refine ⟨_, rfl, ?_⟩; replace BK397 := a0_ (bkB_ BK397 hb); replace HB := a0_ (below_step bq1_ hb); clear hb))
  go_ret
  exact ⟨rr_, bq1_⟩
 subst c3
 rw [if_pos rfl] at H
 obtain ⟨t399, A40, H⟩ := Option.bind_eq_some_iff.mp H
 have A4 := a0_ A40
 clear A40
 by_cases c5 : t399 = true
 case neg =>
  replace c5 := Bool.eq_false_iff.mpr c5
  subst c5
  rw [if_neg (show ¬ (false = true) by decide)] at H
  obtain rfl := Option.some.inj H
  go_enter Tryz.func29, Tryz.ntmps29
  go_wp2_with (first | ((with_reducible refine gate_dst (N := 1) rfl ?_); (try (refine gate_guard (by rfl) ?_; dsimp only)); refine boxS_ 1 #[.string a0_0, .int .i64 a0_1, .int .i64 a0_2, .string a0_3] 45 (fun gb397 hg w17 hbox hb => ?_); have n0_ := a0_ (below_step bq0_ hb); have n1_ := a0_ (hbox); have n2_ := a0_ (gw_ hg : w.heap.size ≤ gb397); have n3_ := n2_; clear HB; have HB := n0_; have BK397 := n1_; have GW397 := n2_; have GE397 := n3_; clear n0_ n1_ n2_ n3_; clear hb hbox hg; obtain ⟨z18_0, z18_1, z18_2, z18_3, q18_0, q18_1, q18_2, q18_3⟩ := bk4_ BK397.out) | ((with_reducible refine gate_callee (f := 83) rfl ?_); refine goesL_ (some 7) rfl rfl Tryz.func83 (by kernel_rfl) rfl #[.string a0_0] rfl argsS_ ?_; (with_reducible refine (impl_GoodName.calls a0_0 true _ A2.out).mono ?_); rintro e w19 ⟨rfl, hb⟩; refine ⟨_, rfl, ?_⟩; replace BK397 := a0_ (bkB_ BK397 hb); replace HB := a0_ (below_step bq1_ hb); clear hb; obtain ⟨z20_0, z20_1, z20_2, z20_3, q20_0, q20_1, q20_2, q20_3⟩ := bk4_ BK397.out) | (go_at_call 84; (with_reducible refine (impl_within.calls a0_2 0 100000 false _ A4.out).mono ?_); rintro e w' ⟨rfl, ⟨nd, rfl⟩⟩))
  go_ret
  exact ⟨rr_, bq1_⟩
 subst c5
 rw [if_pos rfl] at H
 by_cases c6 : (a0_3.size : Int) > 100
 case pos =>
  rw [if_pos c6] at H
  have c6b0 := decide_eq_true c6
  have c6b1 : decide (100 < a0_3.size) = true := decide_eq_true (by omega)
  clear c6
  obtain rfl := Option.some.inj H
  go_enter Tryz.func29, Tryz.ntmps29
  go_wp2_with (first | ((with_reducible refine gate_dst (N := 1) rfl ?_); (try (refine gate_guard (by rfl) ?_; dsimp only)); refine boxS_ 1 #[.string a0_0, .int .i64 a0_1, .int .i64 a0_2, .string a0_3] 45 (fun gb397 hg w7 hbox hb => ?_); have n0_ := a0_ (below_step bq0_ hb); have n1_ := a0_ (hbox); have n2_ := a0_ (gw_ hg : w.heap.size ≤ gb397); have n3_ := n2_; clear HB; have HB := n0_; have BK397 := n1_; have GW397 := n2_; have GE397 := n3_; clear n0_ n1_ n2_ n3_; clear hb hbox hg; obtain ⟨z8_0, z8_1, z8_2, z8_3, q8_0, q8_1, q8_2, q8_3⟩ := bk4_ BK397.out) | ((with_reducible refine gate_callee (f := 83) rfl ?_); refine goesL_ (some 7) rfl rfl Tryz.func83 (by kernel_rfl) rfl #[.string a0_0] rfl argsS_ ?_; (with_reducible refine (impl_GoodName.calls a0_0 true _ A2.out).mono ?_); rintro e w9 ⟨rfl, hb⟩; refine ⟨_, rfl, ?_⟩; replace BK397 := a0_ (bkB_ BK397 hb); replace HB := a0_ (below_step bq1_ hb); clear hb; obtain ⟨z10_0, z10_1, z10_2, z10_3, q10_0, q10_1, q10_2, q10_3⟩ := bk4_ BK397.out) | (go_at_call 84; (with_reducible refine (impl_within.calls a0_2 0 100000 true _ A4.out).mono ?_); rintro e w' ⟨rfl, ⟨nd, rfl⟩⟩))
  go_ret
  exact ⟨rr_, bq1_⟩
 rw [if_neg c6] at H
 have c6b0 := decide_eq_false c6
 have c6b1 : decide (100 < a0_3.size) = false := decide_eq_false (by omega)
 clear c6
 obtain ⟨⟨t400, t401⟩, A110, H⟩ := Option.bind_eq_some_iff.mp H
 have A11 := a0_ A110
 clear A110
 obtain rfl := Option.some.inj H
 go_enter Tryz.func29, Tryz.ntmps29
 go_wp2_with (first | ((with_reducible refine gate_dst (N := 1) rfl ?_); (try (refine gate_guard (by rfl) ?_; dsimp only)); refine boxS_ 1 #[.string a0_0, .int .i64 a0_1, .int .i64 a0_2, .string a0_3] 45 (fun gb397 hg w12 hbox hb => ?_); have n0_ := a0_ (below_step bq0_ hb); have n1_ := a0_ (hbox); have n2_ := a0_ (gw_ hg : w.heap.size ≤ gb397); have n3_ := n2_; clear HB; have HB := n0_; have BK397 := n1_; have GW397 := n2_; have GE397 := n3_; clear n0_ n1_ n2_ n3_; clear hb hbox hg; obtain ⟨z13_0, z13_1, z13_2, z13_3, q13_0, q13_1, q13_2, q13_3⟩ := bk4_ BK397.out) | ((with_reducible refine gate_callee (f := 83) rfl ?_); refine goesL_ (some 7) rfl rfl Tryz.func83 (by kernel_rfl) rfl #[.string a0_0] rfl argsS_ ?_; (with_reducible refine (impl_GoodName.calls a0_0 true _ A2.out).mono ?_); rintro e w14 ⟨rfl, hb⟩; refine ⟨_, rfl, ?_⟩; replace BK397 := a0_ (bkB_ BK397 hb); replace HB := a0_ (below_step bq1_ hb); clear hb; obtain ⟨z15_0, z15_1, z15_2, z15_3, q15_0, q15_1, q15_2, q15_3⟩ := bk4_ BK397.out) | (go_at_call 84; (with_reducible refine (impl_within.calls a0_2 0 100000 true _ A4.out).mono ?_); rintro e w' ⟨rfl, ⟨nd, rfl⟩⟩) | ((with_reducible refine gate_callee (f := 31) rfl ?_); refine goesL_ (some 26) rfl rfl Tryz.func31 (by kernel_rfl) rfl #[.int .i64 a0_1, .string a0_3] rfl argsS_ ?_; (with_reducible refine (impl_DataBytes.calls k a0_1 a0_3 t400 t401 _ A11.out).mono ?_); rintro e w16 ⟨rfl, hb⟩; refine ⟨_, rfl, ?_⟩; replace BK397 := a0_ (bkB_ BK397 hb); replace HB := a0_ (below_step bq1_ hb); clear hb))
 go_ret
 exact ⟨rr_, bq1_⟩
def spec_RecordText.f (k : Nat) (a0_0 : ByteArray) (a0_1 : Int) (a0_2 : Int) (a0_3 : ByteArray) : Option (ByteArray × Bool) := (spec_GoodRecord.f k a0_0 a0_1 a0_2 a0_3).bind fun t700 => (if t700 = true then ((spec_l3Text.f k a0_0 a0_1 a0_2 a0_3).bind fun t701 => (some (t701, true))) else (some ((⟨#[]⟩ : ByteArray), false)))
set_option maxHeartbeats 8000000 in
set_option maxRecDepth 100000 in
theorem spec_RecordText.calls (k : Nat) (a0_0 : ByteArray) (a0_1 : Int) (a0_2 : Int) (a0_3 : ByteArray) (r1 : ByteArray) (r2 : Bool) (w : World) (h : spec_RecordText.f k a0_0 a0_1 a0_2 a0_3 = some (r1, r2)) :
 Calls Tryz.prog 28 #[.agg #[.string a0_0, .int .i64 a0_1, .int .i64 a0_2, .string a0_3]] w fun e w' => e = .returned (.tuple #[.string r1, .bool r2]) ∧ Below w.heap.size w w' := by
 have hu45 := Tryz.underlying45
 have HB := a0_ (Below.refl w.heap.size w)
 have H := h
 clear h
 unfold spec_RecordText.f at H
 obtain ⟨t700, A20, H⟩ := Option.bind_eq_some_iff.mp H
 have A2 := a0_ A20
 clear A20
 by_cases c3 : t700 = true
 case neg =>
  replace c3 := Bool.eq_false_iff.mpr c3
  subst c3
  rw [if_neg (show ¬ (false = true) by decide)] at H
  simp only [Option.some.injEq, Prod.mk.injEq] at H
  obtain ⟨rfl, rfl⟩ := H
  go_enter Tryz.func28, Tryz.ntmps28
  go_wp2_with (first | ((with_reducible refine gate_dst (N := 1) rfl ?_); refine boxS_ 1 #[.string a0_0, .int .i64 a0_1, .int .i64 a0_2, .string a0_3] 45 (fun gb699 hg w10 hbox hb => ?_); have n0_ := a0_ (below_step bq0_ hb); have n1_ := a0_ (hbox); have n2_ := a0_ (gw_ hg : w.heap.size ≤ gb699); have n3_ := n2_; clear HB; have HB := n0_; have BK699 := n1_; have GW699 := n2_; have GE699 := n3_; clear n0_ n1_ n2_ n3_; clear hb hbox hg; obtain ⟨z11_0, z11_1, z11_2, z11_3, q11_0, q11_1, q11_2, q11_3⟩ := bk4_ BK699.out) | ((with_reducible refine gate_callee (f := 61) rfl ?_); refine goesL_ (some 5) rfl rfl Tryz.func61 (by kernel_rfl) rfl #[.agg #[.string a0_0, .int .i64 a0_1, .int .i64 a0_2, .string a0_3]] rfl argsS_ ?_; (with_reducible refine (spec_GoodRecord.calls k a0_0 a0_1 a0_2 a0_3 false _ A2.out).mono ?_); rintro e w12 ⟨rfl, hb⟩; refine ⟨_, rfl, ?_⟩; replace BK699 := a0_ (bkB_ BK699 hb); replace HB := a0_ (below_step bq1_ hb); clear hb))
  go_ret2
  exact ⟨rr_, bq1_⟩
 subst c3
 rw [if_pos rfl] at H
 obtain ⟨t701, A40, H⟩ := Option.bind_eq_some_iff.mp H
 have A4 := a0_ A40
 clear A40
 simp only [Option.some.injEq, Prod.mk.injEq] at H
 obtain ⟨rfl, rfl⟩ := H
 go_enter Tryz.func28, Tryz.ntmps28
 go_wp2_with (first | ((with_reducible refine gate_dst (N := 1) rfl ?_); refine boxS_ 1 #[.string a0_0, .int .i64 a0_1, .int .i64 a0_2, .string a0_3] 45 (fun gb699 hg w5 hbox hb => ?_); have n0_ := a0_ (below_step bq0_ hb); have n1_ := a0_ (hbox); have n2_ := a0_ (gw_ hg : w.heap.size ≤ gb699); have n3_ := n2_; clear HB; have HB := n0_; have BK699 := n1_; have GW699 := n2_; have GE699 := n3_; clear n0_ n1_ n2_ n3_; clear hb hbox hg; obtain ⟨z6_0, z6_1, z6_2, z6_3, q6_0, q6_1, q6_2, q6_3⟩ := bk4_ BK699.out) | ((with_reducible refine gate_callee (f := 61) rfl ?_); refine goesL_ (some 5) rfl rfl Tryz.func61 (by kernel_rfl) rfl #[.agg #[.string a0_0, .int .i64 a0_1, .int .i64 a0_2, .string a0_3]] rfl argsS_ ?_; (with_reducible refine (spec_GoodRecord.calls k a0_0 a0_1 a0_2 a0_3 true _ A2.out).mono ?_); rintro e w7 ⟨rfl, hb⟩; refine ⟨_, rfl, ?_⟩; replace BK699 := a0_ (bkB_ BK699 hb); replace HB := a0_ (below_step bq1_ hb); clear hb; obtain ⟨z8_0, z8_1, z8_2, z8_3, q8_0, q8_1, q8_2, q8_3⟩ := bk4_ BK699.out) | ((with_reducible refine gate_callee (f := 82) rfl ?_); refine goesL_ (some 8) rfl rfl Tryz.func82 (by kernel_rfl) rfl #[.agg #[.string a0_0, .int .i64 a0_1, .int .i64 a0_2, .string a0_3]] rfl argsS_ ?_; (with_reducible refine (spec_l3Text.calls k a0_0 a0_1 a0_2 a0_3 t701 _ A4.out).mono ?_); rintro e w9 ⟨rfl, hb⟩; refine ⟨_, rfl, ?_⟩; replace BK699 := a0_ (bkB_ BK699 hb); replace HB := a0_ (below_step bq1_ hb); clear hb))
 go_ret2
 exact ⟨rr_, bq1_⟩
def spec_TargetOf.f (k : Nat) (a0_0 : ByteArray) (a0_1 : Int) (a0_2 : Int) (a0_3 : ByteArray) : Option (ByteArray × Bool) := (spec_GoodRecord.f k a0_0 a0_1 a0_2 a0_3).bind fun t731 => (if t731 = true then ((spec_l3To.f k a0_0 a0_1 a0_2 a0_3).bind fun t732 => (if t732.toList = ([] : List UInt8) then (some ((⟨#[]⟩ : ByteArray), false)) else ((spec_l3To.f k a0_0 a0_1 a0_2 a0_3).bind fun t733 => (some (t733, true))))) else (some ((⟨#[]⟩ : ByteArray), false)))
set_option maxHeartbeats 8000000 in
set_option maxRecDepth 100000 in
theorem spec_TargetOf.calls (k : Nat) (a0_0 : ByteArray) (a0_1 : Int) (a0_2 : Int) (a0_3 : ByteArray) (r1 : ByteArray) (r2 : Bool) (w : World) (h : spec_TargetOf.f k a0_0 a0_1 a0_2 a0_3 = some (r1, r2)) :
 Calls Tryz.prog 33 #[.agg #[.string a0_0, .int .i64 a0_1, .int .i64 a0_2, .string a0_3]] w fun e w' => e = .returned (.tuple #[.string r1, .bool r2]) ∧ Below w.heap.size w w' := by
 have hu45 := Tryz.underlying45
 have HB := a0_ (Below.refl w.heap.size w)
 have H := h
 clear h
 unfold spec_TargetOf.f at H
 obtain ⟨t731, A20, H⟩ := Option.bind_eq_some_iff.mp H
 have A2 := a0_ A20
 clear A20
 by_cases c3 : t731 = true
 case neg =>
  replace c3 := Bool.eq_false_iff.mpr c3
  subst c3
  rw [if_neg (show ¬ (false = true) by decide)] at H
  simp only [Option.some.injEq, Prod.mk.injEq] at H
  obtain ⟨rfl, rfl⟩ := H
  go_enter Tryz.func33, Tryz.ntmps33
  go_wp2_with (first | ((with_reducible refine gate_dst (N := 1) rfl ?_); refine boxS_ 1 #[.string a0_0, .int .i64 a0_1, .int .i64 a0_2, .string a0_3] 45 (fun gb730 hg w19 hbox hb => ?_); have n0_ := a0_ (below_step bq0_ hb); have n1_ := a0_ (hbox); have n2_ := a0_ (gw_ hg : w.heap.size ≤ gb730); have n3_ := n2_; clear HB; have HB := n0_; have BK730 := n1_; have GW730 := n2_; have GE730 := n3_; clear n0_ n1_ n2_ n3_; clear hb hbox hg; obtain ⟨z20_0, z20_1, z20_2, z20_3, q20_0, q20_1, q20_2, q20_3⟩ := bk4_ BK730.out) | ((with_reducible refine gate_callee (f := 61) rfl ?_); refine goesL_ (some 5) rfl rfl Tryz.func61 (by kernel_rfl) rfl #[.agg #[.string a0_0, .int .i64 a0_1, .int .i64 a0_2, .string a0_3]] rfl argsS_ ?_; (with_reducible refine (spec_GoodRecord.calls k a0_0 a0_1 a0_2 a0_3 false _ A2.out).mono ?_); rintro e w21 ⟨rfl, hb⟩; refine ⟨_, rfl, ?_⟩; replace BK730 := a0_ (bkB_ BK730 hb); replace HB := a0_ (below_step bq1_ hb); clear hb))
  go_ret2
  exact ⟨rr_, bq1_⟩
 subst c3
 rw [if_pos rfl] at H
 obtain ⟨t732, A40, H⟩ := Option.bind_eq_some_iff.mp H
 have A4 := a0_ A40
 clear A40
 by_cases c5 : t732.toList = ([] : List UInt8)
 case pos =>
  rw [if_pos c5] at H
  have c5b0 := beq_iff_eq.mpr c5
  have c5b1 := bne_eq_false_iff_eq.mpr c5
  clear c5
  simp only [Option.some.injEq, Prod.mk.injEq] at H
  obtain ⟨rfl, rfl⟩ := H
  go_enter Tryz.func33, Tryz.ntmps33
  go_wp2_with (first | ((with_reducible refine gate_dst (N := 1) rfl ?_); refine boxS_ 1 #[.string a0_0, .int .i64 a0_1, .int .i64 a0_2, .string a0_3] 45 (fun gb730 hg w6 hbox hb => ?_); have n0_ := a0_ (below_step bq0_ hb); have n1_ := a0_ (hbox); have n2_ := a0_ (gw_ hg : w.heap.size ≤ gb730); have n3_ := n2_; clear HB; have HB := n0_; have BK730 := n1_; have GW730 := n2_; have GE730 := n3_; clear n0_ n1_ n2_ n3_; clear hb hbox hg; obtain ⟨z7_0, z7_1, z7_2, z7_3, q7_0, q7_1, q7_2, q7_3⟩ := bk4_ BK730.out) | ((with_reducible refine gate_callee (f := 61) rfl ?_); refine goesL_ (some 5) rfl rfl Tryz.func61 (by kernel_rfl) rfl #[.agg #[.string a0_0, .int .i64 a0_1, .int .i64 a0_2, .string a0_3]] rfl argsS_ ?_; (with_reducible refine (spec_GoodRecord.calls k a0_0 a0_1 a0_2 a0_3 true _ A2.out).mono ?_); rintro e w8 ⟨rfl, hb⟩; refine ⟨_, rfl, ?_⟩; replace BK730 := a0_ (bkB_ BK730 hb); replace HB := a0_ (below_step bq1_ hb); clear hb; obtain ⟨z9_0, z9_1, z9_2, z9_3, q9_0, q9_1, q9_2, q9_3⟩ := bk4_ BK730.out) | (go_at_call 96; (with_reducible refine (spec_l3To.calls k a0_0 a0_1 a0_2 a0_3 t732 _ A4.out).mono ?_); rintro e w10 ⟨rfl, hb⟩; replace BK730 := a0_ (bkB_ BK730 hb); replace HB := a0_ (below_step bq1_ hb); clear hb))
  go_ret2
  exact ⟨rr_, bq1_⟩
 rw [if_neg c5] at H
 have c5b0 := beq_eq_false_iff_ne.mpr c5
 have c5b1 := bne_iff_ne.mpr c5
 obtain ⟨t733, A110, H⟩ := Option.bind_eq_some_iff.mp H
 have A11 := a0_ A110
 clear A110
 simp only [Option.some.injEq, Prod.mk.injEq] at H
 obtain ⟨rfl, rfl⟩ := H
 go_enter Tryz.func33, Tryz.ntmps33
 go_wp2_with (first | ((with_reducible refine gate_dst (N := 1) rfl ?_); refine boxS_ 1 #[.string a0_0, .int .i64 a0_1, .int .i64 a0_2, .string a0_3] 45 (fun gb730 hg w12 hbox hb => ?_); have n0_ := a0_ (below_step bq0_ hb); have n1_ := a0_ (hbox); have n2_ := a0_ (gw_ hg : w.heap.size ≤ gb730); have n3_ := n2_; clear HB; have HB := n0_; have BK730 := n1_; have GW730 := n2_; have GE730 := n3_; clear n0_ n1_ n2_ n3_; clear hb hbox hg; obtain ⟨z13_0, z13_1, z13_2, z13_3, q13_0, q13_1, q13_2, q13_3⟩ := bk4_ BK730.out) | ((with_reducible refine gate_callee (f := 61) rfl ?_); refine goesL_ (some 5) rfl rfl Tryz.func61 (by kernel_rfl) rfl #[.agg #[.string a0_0, .int .i64 a0_1, .int .i64 a0_2, .string a0_3]] rfl argsS_ ?_; (with_reducible refine (spec_GoodRecord.calls k a0_0 a0_1 a0_2 a0_3 true _ A2.out).mono ?_); rintro e w14 ⟨rfl, hb⟩; refine ⟨_, rfl, ?_⟩; replace BK730 := a0_ (bkB_ BK730 hb); replace HB := a0_ (below_step bq1_ hb); clear hb; obtain ⟨z15_0, z15_1, z15_2, z15_3, q15_0, q15_1, q15_2, q15_3⟩ := bk4_ BK730.out) | (go_at_call 96; (with_reducible refine (spec_l3To.calls k a0_0 a0_1 a0_2 a0_3 t732 _ A4.out).mono ?_); rintro e w16 ⟨rfl, hb⟩; replace BK730 := a0_ (bkB_ BK730 hb); replace HB := a0_ (below_step bq1_ hb); clear hb; obtain ⟨z17_0, z17_1, z17_2, z17_3, q17_0, q17_1, q17_2, q17_3⟩ := bk4_ BK730.out) | ((with_reducible refine gate_callee (f := 96) rfl ?_); refine goesL_ (some 13) rfl rfl Tryz.func96 (by kernel_rfl) rfl #[.agg #[.string a0_0, .int .i64 a0_1, .int .i64 a0_2, .string a0_3]] rfl argsS_ ?_; (with_reducible refine (spec_l3To.calls k a0_0 a0_1 a0_2 a0_3 t733 _ A11.out).mono ?_); rintro e w18 ⟨rfl, hb⟩; refine ⟨_, rfl, ?_⟩; replace BK730 := a0_ (bkB_ BK730 hb); replace HB := a0_ (below_step bq1_ hb); clear hb))
 go_ret2
 exact ⟨rr_, bq1_⟩
end Go.Proofs.YtiegkjimpclmaaaGreatDoor.P
