/- FnExactSetsOf: part 24 of 28 of my texts for this claim, joined; the theorem stands in the last. Conditions: none beyond the statement's. -/
import Derived.Test.YtiegkjimpclmaaaGreatDoorMFnExactSetsOfx22
import Derived.Test.YtiegkjimpclmaaaGreatDoorMFnExactSetsOfx12
namespace Go.Proofs.YtiegkjimpclmaaaGreatDoor.Pure
open Go.RowKit Go.Proofs.YtiegkjimpclmaaaGreatDoor.P Go.Proofs.YtiegkjimpclmaaaGreatDoorW.PrintWords Go.Proofs.YtiegkjimpclmaaaGreatDoorW.PrintLast Go.Proofs.YtiegkjimpclmaaaGreatDoorW.PrintMore
set_option linter.unusedVariables false
set_option linter.unusedSimpArgs false
noncomputable def mark4 (a : Nat) : IRec := ⟨markT (a : Int), ((a + 1 : Nat) : Int), ((a + 2 : Nat) : Int), markT ((a + 3 : Nat) : Int)⟩
noncomputable def marksR (a n : Nat) : List IRec := (List.range n).map fun j => mark4 (a + 4 * j)
theorem mR_w {n : Nat} (h : n < 4611686018427387904) : wrap64 ((n : Int) + 1) = ((n + 1 : Nat) : Int) := by unfold wrap64; omega
theorem rd_set (l : List IRec) (i : Nat) (x : IRec) (h : i < l.length) : rd_T45 (l.set i x) (i : Int) = x := by
 rw [rdI _ i (by rw [List.length_set]; exact h), List.getElem_set_self]
theorem markR_loop (a : Nat) (ha : a < 1000000000) : ∀ (m i : Nat) (l : List IRec), i + m = l.length → l.length ≤ 1048576 → l.take i = marksR a i →
 Ev (fun k => laws_markRecordS.l0 k l ((a + 4 * i : Nat) : Int) (i : Int)) (((a + 4 * l.length : Nat) : Int), marksR a l.length)
 | 0, i, l, h, hl, ht => by
  have hi : i = l.length := by omega
  subst hi
  refine Ev.step (f := fun _ => some (((a + 4 * l.length : Nat) : Int), marksR a l.length)) (fun k => ?_) (Ev.now _)
  show laws_markRecordS.l0 (k + 1) l ((a + 4 * l.length : Nat) : Int) (l.length : Int) = _
  rw [laws_markRecordS.l0, if_neg (by omega)]
  rw [List.take_length] at ht
  rw [← ht]
 | m + 1, i, l, h, hl, ht => by
  have hlt : i < l.length := by omega
  have ih := markR_loop a ha m (i + 1) (l.set i (mark4 (a + 4 * i))) (by rw [List.length_set]; omega) (by rw [List.length_set]; omega) (by
   rw [List.take_set, List.take_add_one, ht, List.getElem?_eq_getElem hlt]
   unfold marksR
   rw [List.range_succ, List.map_append]
   simp [List.set_append])
  rw [List.length_set] at ih
  have w1 : wrap64 (((a + 4 * i : Nat) : Int) + 1) = ((a + 4 * i + 1 : Nat) : Int) := mR_w (by omega)
  have w2 : wrap64 (((a + 4 * i + 1 : Nat) : Int) + 1) = ((a + 4 * i + 2 : Nat) : Int) := mR_w (by omega)
  have w3 : wrap64 (((a + 4 * i + 2 : Nat) : Int) + 1) = ((a + 4 * i + 3 : Nat) : Int) := mR_w (by omega)
  have w4 : wrap64 (((a + 4 * i + 3 : Nat) : Int) + 1) = ((a + 4 * (i + 1) : Nat) : Int) := mR_w (by omega)
  have w5 : wrap64 ((i : Int) + 1) = ((i + 1 : Nat) : Int) := mR_w (by omega)
  refine Ev.step (f := fun k => (laws_markText.f k ((a + 4 * i : Nat) : Int)).bind fun t => (laws_markText.f k ((a + 4 * i + 3 : Nat) : Int)).bind fun t' => laws_markRecordS.l0 k (l.set i ⟨t, ((a + 4 * i + 1 : Nat) : Int), ((a + 4 * i + 2 : Nat) : Int), t'⟩) ((a + 4 * (i + 1) : Nat) : Int) ((i + 1 : Nat) : Int)) (fun k => ?_) (Ev.bind (markT_ev _ (by omega)) (Ev.bind (markT_ev _ (by omega)) ih))
  show laws_markRecordS.l0 (k + 1) l ((a + 4 * i : Nat) : Int) (i : Int) = _
  rw [laws_markRecordS.l0, if_pos (by omega)]
  simp only [w1, w2, w3, w4, w5, Option.bind_some, Int.toNat_natCast, if_pos (show (0 : Int) ≤ (i : Int) by omega)]
  congr 1
  funext t
  have hr : ∀ x, rd_T45 (l.set i x) (i : Int) = x := fun x => rd_set l i x hlt
  simp only [List.set_set, hr]
theorem markR_ev (a : Nat) (ha : a < 1000000000) (l : List IRec) (hl : l.length ≤ 1048576) : Ev (fun k => laws_markRecordS.f k l (a : Int)) (((a + 4 * l.length : Nat) : Int), marksR a l.length) := by
 have := markR_loop a ha l.length 0 l (by omega) hl (by simp [marksR])
 exact Ev.congr (fun k => rfl) this
theorem or2_neg (a b : Int) : or2 (-a) (-b) = - or2 a b := by
 unfold or2
 by_cases h : a = 0
 · rw [if_pos (by omega), if_pos h]
 · rw [if_neg (by omega), if_neg h]
theorem or2_zero (a b : Int) : or2 a b = 0 ↔ a = 0 ∧ b = 0 := by
 unfold or2
 by_cases h : a = 0
 · rw [if_pos h]; exact ⟨fun e => ⟨h, e⟩, fun e => e.2⟩
 · rw [if_neg h]; exact ⟨fun e => absurd e h, fun e => absurd e.1 h⟩
theorem cmpI_neg (a b : Int) : cmpI b a = - cmpI a b := by
 unfold cmpI
 by_cases h : a < b
 · rw [if_neg (by omega), if_pos h, if_pos h]; rfl
 · by_cases h2 : b < a
   · rw [if_pos h2, if_neg h, if_pos h2]
   · rw [if_neg h2, if_neg h, if_neg h, if_neg h2]; rfl
theorem cmpI_zero (a b : Int) : cmpI a b = 0 ↔ a = b := by
 unfold cmpI
 by_cases h : a < b
 · rw [if_pos h]; omega
 · rw [if_neg h]
   by_cases h2 : b < a
   · rw [if_pos h2]; omega
   · rw [if_neg h2]; omega
theorem cmpB_neg : ∀ x y : List UInt8, Lib.compareBytes y x = - Lib.compareBytes x y
 | [], [] => by simp [Lib.compareBytes]
 | [], _ :: _ => by simp [Lib.compareBytes]
 | _ :: _, [] => by simp [Lib.compareBytes]
 | a :: x, b :: y => by
  have ih := cmpB_neg x y
  unfold Lib.compareBytes
  by_cases h1 : a < b
  · have h2 : ¬ b < a := by rw [UInt8.lt_iff_toNat_lt] at h1 ⊢; omega
    simp [h1, h2]
  · by_cases h2 : b < a
    · simp [h1, h2]
    · simp [h1, h2, ih]
theorem cmpB_zero (x y : List UInt8) : Lib.compareBytes x y = 0 ↔ x = y := by
 rw [cmpB_eq]
 by_cases h : x = y
 · rw [if_pos h]; exact ⟨fun _ => h, fun _ => rfl⟩
 · rw [if_neg h]
   refine ⟨fun e => ?_, fun e => absurd e h⟩
   split at e <;> omega
theorem ordR_neg (a : List UInt8) (b c : Int) (x a' : List UInt8) (b' c' : Int) (x' : List UInt8) : ordR a' b' c' x' a b c x = - ordR a b c x a' b' c' x' := by
 unfold ordR
 rw [ord_neg a a', cmpI_neg b b', cmpB_neg x x', cmpI_neg c c', or2_neg, or2_neg, or2_neg]
theorem ordR_zero (a : List UInt8) (b c : Int) (x a' : List UInt8) (b' c' : Int) (x' : List UInt8) : ordR a b c x a' b' c' x' = 0 ↔ a = a' ∧ b = b' ∧ x = x' ∧ c = c' := by
 unfold ordR
 rw [or2_zero, or2_zero, or2_zero, ord_zero, cmpI_zero, cmpB_zero, cmpI_zero]
 exact ⟨fun h => ⟨h.1.1, h.1.2, h.2.1, h.2.2⟩, fun h => ⟨⟨h.1, h.2.1⟩, h.2.2.1, h.2.2.2⟩⟩
def noB : ByteArray := (⟨#[]⟩ : ByteArray)
def finS0 (k : Nat) (kind : Int) (b d : ByteArray) : Option (ByteArray × Bool) := (spec_l3Bytes.f k kind d).bind fun bt => (if bt.2 = true then (if bt.1.toList = b.toList then (some (d, true)) else (some ((⟨#[]⟩ : ByteArray), false))) else (some ((⟨#[]⟩ : ByteArray), false)))
def finS (k : Nat) (kind : Int) (b d : ByteArray) : Option (ByteArray × Bool) := spec_ReadData.j2 k kind b d
def finR (b d : ByteArray) (r : ByteArray × Bool) : ByteArray × Bool := if r.2 = true ∧ r.1.toList = b.toList then (d, true) else badD
theorem finI_ev {kind : Int} {b d : ByteArray} {r : ByteArray × Bool} (h : Ev (fun k => impl_DataBytes.f k kind d) r) : Ev (fun k => finI k kind b d) (finR b d r) := by
 unfold finI
 refine Ev.bind h ?_
 unfold finR
 exact Ev.now _
theorem big_size {n c : Int} {k : Nat} {t : ByteArray} (h : impl_big.f k n c = some t) : (c = 1 → t.size = 1) ∧ (c = 2 → t.size = 2) ∧ (c = 4 → t.size = 4) := by
 have e : Ev (fun k => impl_big.f k n c) t := Ev.of (fun k => impl_big.mono _ _ _) h
 refine ⟨fun hc => ?_, fun hc => ?_, fun hc => ?_⟩
 · subst hc; rw [Ev.unique e (big1 n), strOfNums_size]; rfl
 · subst hc; rw [Ev.unique e (big2 n), strOfNums_size]; rfl
 · subst hc; rw [Ev.unique e (big4 n), strOfNums_size]; rfl
theorem l0_size : ∀ (k : Nat) (parts : List ByteArray) (out : ByteArray) (i : Nat) (r : ByteArray × Bool), impl_DataBytes.l0 k parts out (i : Int) = some r → r.2 = true → i ≤ parts.length → parts.length < 1099511627776 → (i < parts.length → parts.length = 4) ∧ r.1.size = out.size + (parts.length - i)
 | 0, parts, out, i, r, h, h2, hi, hl => by simp [impl_DataBytes.l0] at h
 | k + 1, parts, out, i, r, h, h2, hi, hl => by
  unfold impl_DataBytes.l0 at h
  by_cases c : (i : Int) < (parts.length : Int)
  · rw [if_pos c, if_pos (by omega)] at h
    obtain ⟨b, hb, h⟩ := Option.bind_eq_some_iff.mp h
    by_cases c2 : b.2 = true
    · rw [if_pos c2] at h
      by_cases c4 : (parts.length : Int) = 4
      · rw [if_pos c4] at h
        obtain ⟨t, ht, h⟩ := Option.bind_eq_some_iff.mp h
        have hz := (big_size ht).1 rfl
        by_cases c5 : out.size + t.size ≤ 9223372036854775807
        · rw [if_pos c5, w64n (by omega)] at h
          have := l0_size k parts (out ++ t) (i + 1) r h h2 (by omega) hl
          rw [ByteArray.size_append] at this
          exact ⟨fun _ => by omega, by omega⟩
        · rw [if_neg c5] at h; cases h
      · rw [if_neg c4] at h
        obtain rfl := Option.some.inj h
        cases h2
    · rw [if_neg c2] at h
      obtain rfl := Option.some.inj h
      cases h2
  · rw [if_neg c] at h
    obtain rfl := Option.some.inj h
    exact ⟨fun x => by omega, by show out.size = _; omega⟩
theorem lab_size {k : Nat} {s lb : ByteArray} (ht : impl_isTarget.f s = some true) (h : impl_labelBytes.f k s = some lb) : lb.size = s.size + 1 ∧ s.size ≤ 60 ∧ s.size ≠ 0 := by
 have e : Ev (fun k => impl_labelBytes.f k s) lb := Ev.of (fun k => impl_labelBytes.mono _ _) h
 have hT : targL s.data.toList = true := Option.some.inj ((target_impl s).symm.trans ht)
 have hg := targ_good hT
 obtain ⟨r, g1, _, g3⟩ := nb_both s hg
 have hz := good_size hg
 rw [← size_len] at hz
 have hne : s.size ≠ 0 := by
  intro e0
  rw [size_len] at e0
  rw [List.length_eq_zero_iff.mp e0] at hT
  simp [targL] at hT
 rw [Ev.unique e g1, g3, if_neg hne]
 exact ⟨rfl, by omega, hne⟩
theorem data_size {k : Nat} {kind : Int} {d : ByteArray} {r : ByteArray × Bool} (hd : d.size ≤ 1048576) (h : impl_DataBytes.f k kind d = some r) (h2 : r.2 = true) :
 r.1.size ≤ 100 ∧ (kind = 1 → r.1.size = 4 ∨ r.1.size = 0) ∧ (kind = 2 ∨ kind = 5 → r.1.size = d.size + 2 ∧ d.size ≠ 0) ∧
 (kind = 15 → ∃ c, strings_Cut.f d (⟨#[32]⟩ : ByteArray) = some c ∧ r.1.size = c.2.1.size + 4 ∧ c.2.1.size ≠ 0) := by
 unfold impl_DataBytes.f at h
 by_cases k1 : kind = 1
 · rw [if_pos k1] at h
   obtain ⟨parts, hp, h⟩ := Option.bind_eq_some_iff.mp h
   have hpl : parts.length < 1099511627776 := by
    unfold strings_Split.f at hp
    rw [if_pos (show (⟨#[46]⟩ : ByteArray).size = 1 from rfl), if_pos (by omega)] at hp
    obtain rfl := Option.some.inj hp
    rw [List.length_map]
    have := splitL_len ((⟨#[46]⟩ : ByteArray).data.toList.headD 0) d.data.toList
    rw [← size_len] at this
    omega
   have h3 := l0_size k parts _ 0 r h h2 (by omega) hpl
   have h4 : (⟨#[]⟩ : ByteArray).size = 0 := rfl
   rw [h4] at h3
   by_cases c : 0 < parts.length
   · have := h3.1 c
     exact ⟨by omega, fun _ => .inl (by omega), fun e => by omega, fun e => by omega⟩
   · exact ⟨by omega, fun _ => .inr (by omega), fun e => by omega, fun e => by omega⟩
 rw [if_neg k1] at h
 by_cases k2 : kind = 2 ∨ kind = 5
 · rw [if_pos k2] at h
   unfold dataNs at h
   obtain ⟨t, ht, h⟩ := Option.bind_eq_some_iff.mp h
   cases t with
   | false => rw [if_neg (by decide)] at h; obtain rfl := Option.some.inj h; cases h2
   | true =>
    rw [if_pos rfl] at h
    obtain ⟨lb, hlb, h⟩ := Option.bind_eq_some_iff.mp h
    have hz := lab_size ht hlb
    rw [if_pos (by omega)] at h
    obtain rfl := Option.some.inj h
    have e : (lb ++ (⟨#[0]⟩ : ByteArray)).size = lb.size + 1 := by rw [ByteArray.size_append]; rfl
    exact ⟨by show (lb ++ (⟨#[0]⟩ : ByteArray)).size ≤ _; omega, fun e => by omega, fun _ => ⟨by show (lb ++ (⟨#[0]⟩ : ByteArray)).size = _; omega, hz.2.2⟩, fun e => by omega⟩
 rw [if_neg k2] at h
 by_cases k6 : kind = 6
 · rw [if_pos k6] at h
   unfold dataSoa at h
   obtain ⟨b, hb, h⟩ := Option.bind_eq_some_iff.mp h
   by_cases c : b.2 = true
   · rw [if_pos c] at h
     obtain ⟨t, ht, h⟩ := Option.bind_eq_some_iff.mp h
     have hz := (big_size ht).2.2 rfl
     obtain rfl := Option.some.inj h
     exact ⟨by show t.size ≤ _; omega, fun e => by omega, fun e => by omega, fun e => by omega⟩
   · rw [if_neg c] at h; obtain rfl := Option.some.inj h; cases h2
 rw [if_neg k6] at h
 by_cases k15 : kind = 15
 · rw [if_pos k15] at h
   unfold dataMx at h
   obtain ⟨c, hc, h⟩ := Option.bind_eq_some_iff.mp h
   obtain ⟨b, hb, h⟩ := Option.bind_eq_some_iff.mp h
   by_cases cb : b.2 = true
   · rw [if_pos cb] at h
     obtain ⟨t, ht, h⟩ := Option.bind_eq_some_iff.mp h
     cases t with
     | false => rw [if_neg (by decide)] at h; obtain rfl := Option.some.inj h; cases h2
     | true =>
      rw [if_pos rfl] at h
      obtain ⟨g, hg, h⟩ := Option.bind_eq_some_iff.mp h
      obtain ⟨lb, hlb, h⟩ := Option.bind_eq_some_iff.mp h
      have hz := lab_size ht hlb
      have hgz := (big_size hg).2.1 rfl
      rw [if_pos (by omega), if_pos (by omega)] at h
      obtain rfl := Option.some.inj h
      have e : ((g ++ lb) ++ (⟨#[0]⟩ : ByteArray)).size = g.size + lb.size + 1 := by rw [ByteArray.size_append, ByteArray.size_append]; rfl
      exact ⟨by show ((g ++ lb) ++ (⟨#[0]⟩ : ByteArray)).size ≤ _; omega, fun e => by omega, fun e => by omega, fun _ => ⟨c, hc, by show ((g ++ lb) ++ (⟨#[0]⟩ : ByteArray)).size = _; omega, hz.2.2⟩⟩
   · rw [if_neg cb] at h; obtain rfl := Option.some.inj h; cases h2
 rw [if_neg k15] at h
 by_cases k16 : kind = 16
 · rw [if_pos k16] at h
   unfold dataTxt at h
   by_cases c : (d.size : Int) > 30
   · rw [if_pos c] at h; obtain rfl := Option.some.inj h; cases h2
   rw [if_neg c] at h
   split at h
   · obtain rfl := Option.some.inj h; cases h2
   obtain ⟨t, ht, h⟩ := Option.bind_eq_some_iff.mp h
   have hz := (big_size ht).1 rfl
   rw [if_pos (by omega)] at h
   obtain rfl := Option.some.inj h
   exact ⟨by show (t ++ d).size ≤ _; rw [ByteArray.size_append]; omega, fun e => by omega, fun e => by omega, fun e => by omega⟩
 · rw [if_neg k16] at h; obtain rfl := Option.some.inj h; cases h2
theorem or64 (a c : Nat) (ha : a < 1099511627776) (hc : c < 256) : Go.bits .or .i64 (a : Int) (c : Int) = ((a ||| c : Nat) : Int) := by
 have hx : a ||| c < 2 ^ 40 := Nat.or_lt_two_pow (by omega) (by omega)
 have h1 : (BitVec.ofInt 64 (a : Int)).toNat = a := by
  rw [BitVec.ofInt_natCast, BitVec.toNat_ofNat]; exact Nat.mod_eq_of_lt (by omega)
 have h2 : (BitVec.ofInt 64 (c : Int)).toNat = c := by
  rw [BitVec.ofInt_natCast, BitVec.toNat_ofNat]; exact Nat.mod_eq_of_lt (by omega)
 show IntKind.i64.wrap ((BitVec.ofInt 64 (a : Int) ||| BitVec.ofInt 64 (c : Int)).toNat : Int) = _
 rw [BitVec.toNat_or, h1, h2, i64_w]
 unfold wrap64
 omega
theorem bt_getD (b : ByteArray) (i : Nat) (h : i < b.size) : bt b (i : Int) = ((b.data.toList.getD i 0).toNat : Int) := by
 have hl : i < b.data.toList.length := by rw [← size_len]; exact h
 have := bt_mkB b.data.toList i hl
 rw [data_mkB] at this
 rw [this, List.getD_eq_getElem?_getD, List.getElem?_eq_getElem hl]
 rfl
theorem itoaB_it (n : Int) (h : 0 ≤ n) : itoaB n = itB n := by
 unfold itoaB itB Lib.itoa
 rw [if_neg (by omega)]
 rfl
abbrev LSetP := S82
def convS (x : LSetP) : SSet := ⟨x.f0, x.f1, x.f2, x.f3⟩
theorem rdSS (l : List SSet) (i : Nat) (h : i < l.length) : rd_T83 l (i : Int) = l[i] := by
 unfold rd_T83
 rw [Int.toNat_natCast, List.getD_eq_getElem?_getD, List.getElem?_eq_getElem h, Option.getD_some]
def cnt (l : List LSetP) : Nat := (l.map fun s => s.f3.length).sum
def cntS (l : List SSet) : Nat := (l.map fun s => s.f3.length).sum
theorem cntS_cons (x : SSet) (l : List SSet) : cntS (x :: l) = x.f3.length + cntS l := by simp [cntS]
theorem eqSS_loop (l : List SSet) (hl : l.length < 1099511627776) (hs : ∀ y ∈ l, y.f3.length < 1099511627776) : ∀ (m i : Nat), i + m = l.length → Ev (fun k => laws_eqSetS.l0 k l l (i : Int)) true
 | 0, i, hi => by
  refine Ev.step (f := fun _ => some true) (fun k => ?_) (Ev.now _)
  show laws_eqSetS.l0 (k + 1) l l (i : Int) = _
  rw [laws_eqSetS.l0, if_neg (by omega)]
 | m + 1, i, hi => by
  have hlt : i < l.length := by omega
  have hw : wrap64 ((i : Int) + 1) = ((i + 1 : Nat) : Int) := w64n (by omega)
  have he : Ev (fun k => laws_eqSet.f k l[i].f0 l[i].f1 l[i].f2 l[i].f3 l[i].f0 l[i].f1 l[i].f2 l[i].f3) true := by
   refine Ev.congr (fun k => by unfold laws_eqSet.f; rw [if_pos rfl, if_pos rfl, if_pos rfl]) (Ev.bind (eqS_ev l[i].f3 (hs _ (List.getElem_mem hlt))) ?_)
   simp only [if_true]
   exact Ev.now _
  have e0 : ∀ k, laws_eqSetS.l0 (k + 1) l l (i : Int) = (laws_eqSet.f k l[i].f0 l[i].f1 l[i].f2 l[i].f3 l[i].f0 l[i].f1 l[i].f2 l[i].f3).bind fun t450 => (if t450 = true then (laws_eqSetS.l0 k l l ((i + 1 : Nat) : Int)) else (some false)) := fun k => by
   rw [laws_eqSetS.l0, if_pos (by omega), if_pos (by omega), if_pos (by omega), rdSS l i hlt, hw]
  refine Ev.step e0 (Ev.bind he ?_)
  simp only [if_true]
  exact eqSS_loop l hl hs m (i + 1) (by omega)
theorem eqSS_ev (l : List SSet) (hl : l.length ≤ 1048576) (hs : ∀ y ∈ l, y.f3.length ≤ 1048576) : Ev (fun k => laws_eqSetS.f k l l) true := by
 refine Ev.congr (fun k => ?_) (eqSS_loop l (by omega) (fun y hy => by have := hs y hy; omega) l.length 0 (by omega))
 unfold laws_eqSetS.f
 rw [if_pos rfl]
 rfl
end Go.Proofs.YtiegkjimpclmaaaGreatDoor.Pure
namespace Go.Proofs.YtiegkjimpclmaaaGreatDoor.Pure
open Go.RowKit Go.Proofs.YtiegkjimpclmaaaGreatDoor.P Go.Proofs.YtiegkjimpclmaaaGreatDoorW.PrintWords Go.Proofs.YtiegkjimpclmaaaGreatDoorW.PrintLast
set_option linter.unusedVariables false
set_option linter.unusedSimpArgs false
theorem or_add (n c : Nat) (h : c < 256) : n * 256 ||| c = n * 256 + c := by
 have := Nat.shiftLeft_add_eq_or_of_lt (b := c) (i := 8) (by omega) n
 rw [Nat.shiftLeft_eq] at this
 exact this.symm
def valB (l : List UInt8) (n : Nat) : Nat := l.foldl (fun a x => a * 256 + x.toNat) n
theorem val_loop (b : ByteArray) (hb : b.size ≤ 4) : ∀ (m i n : Nat), i + m = b.size → n < 2 ^ (8 * i) → Ev (fun k => impl_number.l0 k b (n : Int) (b.size : Int) (i : Int)) (valB (b.data.toList.drop i) n : Int)
 | 0, i, n, h, hn => by
  rw [List.drop_of_length_le (by rw [← size_len]; omega)]
  exact Ev.step (f := fun _ => some (n : Int)) (fun k => by rw [impl_number.l0, if_neg (by omega)]) (Ev.now _)
 | m + 1, i, n, h, hn => by
  have hl : i < b.data.toList.length := by rw [← size_len]; omega
  have hle : 2 ^ (8 * i) ≤ 2 ^ 24 := Nat.pow_le_pow_right (by omega) (by omega)
  have hc := (b.data.toList[i]).toNat_lt
  have hbt : bt b (i : Int) = ((b.data.toList[i]).toNat : Int) := by
   rw [bt_getD b i (by omega), List.getD_eq_getElem?_getD, List.getElem?_eq_getElem hl]
   rfl
  have h256 : 2 ^ (8 * (i + 1)) = 2 ^ (8 * i) * 256 := by rw [show 8 * (i + 1) = 8 * i + 8 by omega, Nat.pow_add]
  have ih := val_loop b hb m (i + 1) (n * 256 + (b.data.toList[i]).toNat) (by omega) (by omega)
  rw [List.drop_eq_getElem_cons hl]
  have ev : Go.bits .or .i64 (wrap64 ((n : Int) * 256)) (wrap64 (bt b (i : Int))) = ((n * 256 + (b.data.toList[i]).toNat : Nat) : Int) := by
   rw [hbt, show wrap64 ((n : Int) * 256) = ((n * 256 : Nat) : Int) by unfold wrap64; omega, show wrap64 ((b.data.toList[i]).toNat : Int) = ((b.data.toList[i]).toNat : Int) by unfold wrap64; omega, or64 _ _ (by omega) (by omega), or_add _ _ (by omega)]
  exact Ev.step (fun k => by rw [impl_number.l0, if_pos (by omega), if_pos (by omega), if_pos (by omega), ev, w64n (by omega)]) ih
theorem num_val (b : ByteArray) (hb : b.size ≤ 4) : Ev (fun k => impl_number.f k b) (valB b.data.toList 0 : Int) := by
 have := val_loop b hb b.size 0 0 (by omega) (by decide)
 rwa [List.drop_zero] at this
theorem big4_val (n : Int) (h0 : 0 ≤ n) (h1 : n < 4294967296) : Ev (fun k => impl_number.f k (strOfNums [n / 16777216 % 256, n / 65536 % 256, n / 256 % 256, n % 256])) n := by
 have := num_val (strOfNums [n / 16777216 % 256, n / 65536 % 256, n / 256 % 256, n % 256]) (by rw [strOfNums_size]; show 4 ≤ 4; omega)
 have e : (valB (strOfNums [n / 16777216 % 256, n / 65536 % 256, n / 256 % 256, n % 256]).data.toList 0 : Int) = n := by
  unfold strOfNums valB
  simp only [List.map_cons, List.map_nil, List.foldl_cons, List.foldl_nil, UInt8.toNat_ofNat']
  omega
 rwa [e] at this
theorem big2_val (n : Int) (h0 : 0 ≤ n) (h1 : n < 65536) : Ev (fun k => impl_number.f k (strOfNums [n / 256 % 256, n % 256])) n := by
 have := num_val (strOfNums [n / 256 % 256, n % 256]) (by rw [strOfNums_size]; show 2 ≤ 4; omega)
 have e : (valB (strOfNums [n / 256 % 256, n % 256]).data.toList 0 : Int) = n := by
  unfold strOfNums valB
  simp only [List.map_cons, List.map_nil, List.foldl_cons, List.foldl_nil, UInt8.toNat_ofNat']
  omega
 rwa [e] at this
theorem dig_back {l : List UInt8} (h : canL l = true) : Lib.decDigits (valL l) = l := by
 unfold canL at h
 simp only [Bool.and_eq_true, decide_eq_true_eq, Bool.or_eq_true] at h
 exact digits_back l.length l (Nat.le_refl _) (fun e => by rw [e] at h; simp at h) h.1.2 h.2
theorem back_of {kind : Int} {b d : ByteArray} (hb : b.size ≤ 100) (h : Ev (fun k => impl_DataBytes.f k kind d) (b, true)) (hp : Ev (fun k => preI k kind b) d) : Ev (fun k => impl_ReadData.f k kind b) (d, true) := by
 unfold impl_ReadData.f
 simp only [if_neg (show ¬ 100 < b.size by omega)]
 refine Ev.bind hp ?_
 have := finI_ev (b := b) h
 unfold finR at this
 rwa [if_pos ⟨rfl, rfl⟩] at this
theorem preI_6 (k : Nat) (b : ByteArray) (h : b.size = 4) : preI k 6 b = (impl_number.f k b).bind fun n => strconv_Itoa.f n := by
 unfold preI
 rw [if_neg (by omega), if_neg (by omega), if_pos ⟨rfl, h⟩]
theorem preI_16 (k : Nat) (b : ByteArray) (h : 0 < b.size) : preI k 16 b = some (b.extract 1 b.size) := by
 unfold preI
 rw [if_neg (by omega), if_neg (by omega), if_neg (by omega), if_neg (by omega), if_pos ⟨rfl, h⟩]
theorem back_serial {d b : ByteArray} (hd : d.size ≤ 1048576) (h : Ev (fun k => impl_DataBytes.f k 6 d) (b, true)) : Ev (fun k => impl_ReadData.f k 6 b) (d, true) := by
 obtain ⟨k, hk⟩ := Ev.rounds h
 have hsz := (data_size hd hk rfl).1
 unfold impl_DataBytes.f at hk
 rw [if_neg (by decide), if_neg (by decide), if_pos rfl] at hk
 unfold dataSoa at hk
 obtain ⟨v, hv1, hv2⟩ := number_eq d 4294967295 (by omega) (by omega) (by omega)
 rw [hv1, Option.bind_some] at hk
 by_cases hc : (canL d.data.toList && decide ((valL d.data.toList : Int) ≤ 4294967295)) = true
 · have hv := hv2 hc
   rw [if_pos hc] at hk
   obtain ⟨t, ht, hk⟩ := Option.bind_eq_some_iff.mp hk
   have e : Ev (fun k => impl_big.f k v 4) t := Ev.of (fun k => impl_big.mono _ _ _) ht
   have et := Ev.unique e (big4 v)
   obtain rfl : t = b := (Prod.mk.inj (Option.some.inj hk)).1
   rw [Bool.and_eq_true, decide_eq_true_eq] at hc
   refine back_of hsz h ?_
   have h4 : t.size = 4 := by rw [et, strOfNums_size]; rfl
   have hn := big4_val v (by omega) (by omega)
   rw [← et] at hn
   refine Ev.congr (fun k => preI_6 k t h4) (Ev.bind hn ?_)
   rw [itoa_it v (by omega) (by omega)]
   have : itB v = d := by
    apply ext_data
    unfold itB
    rw [mkB_data, hv, Int.toNat_natCast, dig_back hc.1]
   rw [this]
   exact Ev.now _
 · rw [if_neg hc] at hk
   cases (Prod.mk.inj (Option.some.inj hk)).2
theorem back_text {d b : ByteArray} (hd : d.size ≤ 1048576) (h : Ev (fun k => impl_DataBytes.f k 16 d) (b, true)) : Ev (fun k => impl_ReadData.f k 16 b) (d, true) := by
 obtain ⟨k, hk⟩ := Ev.rounds h
 have hsz := (data_size hd hk rfl).1
 unfold impl_DataBytes.f at hk
 rw [if_neg (by decide), if_neg (by decide), if_neg (by decide), if_neg (by decide), if_pos rfl] at hk
 unfold dataTxt at hk
 by_cases c : (d.size : Int) > 30
 · rw [if_pos c] at hk
   cases (Prod.mk.inj (Option.some.inj hk)).2
 rw [if_neg c] at hk
 split at hk
 · cases (Prod.mk.inj (Option.some.inj hk)).2
 obtain ⟨t, ht, hk⟩ := Option.bind_eq_some_iff.mp hk
 have hz := (big_size ht).1 rfl
 rw [if_pos (by omega)] at hk
 obtain rfl : t ++ d = b := (Prod.mk.inj (Option.some.inj hk)).1
 refine back_of hsz h ?_
 have hs : (t ++ d).size = 1 + d.size := by rw [ByteArray.size_append, hz]
 have e : (t ++ d).extract 1 (t ++ d).size = d := by
  apply ext_data
  have ht1 : t.data.toList.length = 1 := by rw [← size_len]; exact hz
  rw [ext_end, mkB_data]
  have : (t ++ d).data.toList = t.data.toList ++ d.data.toList := by simp
  rw [this, List.drop_append_of_le_length (by omega), List.drop_of_length_le (by omega), List.nil_append]
 exact Ev.congr (fun k => (preI_16 k (t ++ d) (by omega)).trans (by rw [e])) (Ev.now _)
theorem join_split (s : List UInt8) : Lib.join (splitL 46 s) [46] = s := by
 have : ∀ n (s : List UInt8), s.length ≤ n → Lib.join (splitL 46 s) [46] = s := by
  intro n
  induction n with
  | zero =>
   intro s hs
   obtain rfl : s = [] := List.length_eq_zero_iff.1 (by omega)
   rfl
  | succ n ih =>
   intro s hs
   rcases place_or 46 s with ⟨_, h2⟩ | ⟨p, r, h1, h2, h3⟩
   · rw [splitL_none _ _ h2]
     rw [Lib.join_cons]
     simp [Lib.joinTail]
   · rw [h1, splitL_hit 46 p r h2]
     obtain ⟨q, qs, hq⟩ := List.exists_cons_of_ne_nil (splitL_ne 46 r)
     have := ih r (by rw [h1] at hs; simp at hs; omega)
     rw [hq] at this ⊢
     rw [Lib.join_cons, tail_cons, ← Lib.join_cons, this]
 exact this s.length s (Nat.le_refl _)
theorem name_back {s : ByteArray} (h : goodL s.data.toList = true) : nameR ((labelsL s.data.toList).map mkB) = (s, true) := by
 obtain ⟨h1, h2⟩ := good_all h
 have hj : joinL ((labelsL s.data.toList).map mkB) = s.data.toList := by
  unfold joinL
  rw [List.map_map]
  have : ((fun x : ByteArray => x.data.toList) ∘ mkB) = id := by funext z; exact mkB_data z
  rw [this, List.map_id]
  unfold labelsL
  split
  · next e => rw [e]; rfl
  · exact join_split _
 unfold nameR
 rw [if_pos, hj, if_pos h, data_mkB]
 simp only [Bool.and_eq_true, decide_eq_true_eq, List.all_eq_true, List.length_map]
 refine ⟨h1, fun x hx => ?_⟩
 obtain ⟨z, hz, rfl⟩ := List.mem_map.1 hx
 rw [mkB_data]
 exact h2 z hz
theorem l0_back : ∀ (k : Nat) (parts : List ByteArray) (out : ByteArray) (i : Nat) (r : ByteArray × Bool), impl_DataBytes.l0 k parts out (i : Int) = some r → r.2 = true → i ≤ parts.length → parts.length < 1099511627776 → (∀ p ∈ parts, p.size ≤ 1048576) →
 (∀ p ∈ parts.drop i, canL p.data.toList = true ∧ valL p.data.toList ≤ 255) ∧ r.1 = out ++ mkB ((parts.drop i).map fun p => UInt8.ofNat (valL p.data.toList))
 | 0, parts, out, i, r, h, h2, hi, hl, hs => by simp [impl_DataBytes.l0] at h
 | k + 1, parts, out, i, r, h, h2, hi, hl, hs => by
  unfold impl_DataBytes.l0 at h
  by_cases c : (i : Int) < (parts.length : Int)
  · have hi' : i < parts.length := by omega
    obtain ⟨v, hv1, hv2⟩ := number_eq parts[i] 255 (by have := hs _ (List.getElem_mem hi'); omega) (by omega) (by omega)
    rw [if_pos c, if_pos (by omega), td_rd parts i hi', hv1, Option.bind_some] at h
    by_cases hc : (canL parts[i].data.toList && decide ((valL parts[i].data.toList : Int) ≤ 255)) = true
    · rw [if_pos hc] at h
      have hv := hv2 hc
      rw [Bool.and_eq_true, decide_eq_true_eq] at hc
      by_cases c4 : (parts.length : Int) = 4
      · rw [if_pos c4] at h
        obtain ⟨t, ht, h⟩ := Option.bind_eq_some_iff.mp h
        have e : Ev (fun k => impl_big.f k v 1) t := Ev.of (fun k => impl_big.mono _ _ _) ht
        have et : t = mkB [UInt8.ofNat (valL parts[i].data.toList)] := by
         rw [Ev.unique e (big1 v), hv, show ((valL parts[i].data.toList : Nat) : Int) % 256 = ((valL parts[i].data.toList : Nat) : Int) by omega]
         rfl
        by_cases c5 : out.size + t.size ≤ 9223372036854775807
        · rw [if_pos c5, w64n (by omega)] at h
          obtain ⟨g1, g2⟩ := l0_back k parts (out ++ t) (i + 1) r h h2 (by omega) hl hs
          rw [List.drop_eq_getElem_cons hi']
          refine ⟨fun p hp => ?_, ?_⟩
          · rcases List.mem_cons.mp hp with rfl | hp
            · exact ⟨hc.1, by omega⟩
            · exact g1 p hp
          · rw [g2, et, List.map_cons]
            apply ext_data
            simp [mkB_data]
        · rw [if_neg c5] at h; cases h
      · rw [if_neg c4] at h
        obtain rfl := Option.some.inj h
        cases h2
    · rw [if_neg hc] at h
      obtain rfl := Option.some.inj h
      cases h2
  · rw [if_neg c] at h
    obtain rfl := Option.some.inj h
    rw [List.drop_of_length_le (by omega)]
    refine ⟨(fun p hp => by cases hp), ?_⟩
    apply ext_data
    simp [mkB_data]
theorem preI_1 (k : Nat) (b : ByteArray) (h : b.size = 4) : preI k 1 b = some (mkB (joinL (partsI b))) := by
 unfold preI
 rw [if_pos ⟨rfl, h⟩]
theorem back_addr {d b : ByteArray} (hd : d.size ≤ 1048576) (h : Ev (fun k => impl_DataBytes.f k 1 d) (b, true)) : Ev (fun k => impl_ReadData.f k 1 b) (d, true) := by
 obtain ⟨k, hk⟩ := Ev.rounds h
 have hsz := (data_size hd hk rfl).1
 unfold impl_DataBytes.f at hk
 rw [if_pos rfl] at hk
 obtain ⟨parts, hp, hk⟩ := Option.bind_eq_some_iff.mp hk
 unfold strings_Split.f at hp
 rw [if_pos (show (⟨#[46]⟩ : ByteArray).size = 1 from rfl), if_pos (by omega), show (⟨#[46]⟩ : ByteArray).data.toList.headD 0 = 46 from rfl] at hp
 obtain rfl := Option.some.inj hp
 have hlen := splitL_len 46 d.data.toList
 rw [← size_len] at hlen
 have hne := List.length_pos_iff.2 (splitL_ne 46 d.data.toList)
 have hll : ((splitL 46 d.data.toList).map mkB).length = (splitL 46 d.data.toList).length := List.length_map ..
 have hps : ∀ p ∈ (splitL 46 d.data.toList).map mkB, p.size ≤ 1048576 := by
  intro x hx
  obtain ⟨q, hq, rfl⟩ := List.mem_map.1 hx
  have := splitL_part 46 _ q hq
  rw [← size_len] at this
  rw [mkB_size]
  omega
 have hz := l0_size k _ _ 0 _ hk rfl (by omega) (by omega)
 have h4 := hz.1 (by omega)
 have hb4 : b.size = 4 := by
  have := hz.2
  rw [h4] at this
  exact this.trans (by show 0 + (4 - 0) = 4; omega)
 obtain ⟨g1, g2⟩ := l0_back k _ _ 0 _ hk rfl (by omega) (by omega) hps
 rw [List.drop_zero] at g1 g2
 refine back_of hsz h ?_
 have e : partsI b = (splitL 46 d.data.toList).map mkB := by
  have gb : b.data.toList = ((splitL 46 d.data.toList).map mkB).map fun p => UInt8.ofNat (valL p.data.toList) := by
   replace g2 : b = (⟨#[]⟩ : ByteArray) ++ mkB (((splitL 46 d.data.toList).map mkB).map fun p => UInt8.ofNat (valL p.data.toList)) := g2
   rw [g2]
   simp [mkB_data]
  unfold partsI bytesOf
  rw [gb, List.map_map, List.map_map]
  refine (List.map_congr_left fun p hp => ?_).trans (List.map_id _)
  obtain ⟨c1, c2⟩ := g1 p hp
  show itoaB ((UInt8.ofNat (valL p.data.toList)).toNat : Int) = p
  rw [UInt8.toNat_ofNat', itoaB_it _ (by omega)]
  apply ext_data
  unfold itB
  rw [mkB_data, Int.toNat_natCast, Nat.mod_eq_of_lt (by omega), dig_back c1]
 have ej : mkB (joinL (partsI b)) = d := by
  rw [e]
  apply ext_data
  rw [mkB_data]
  unfold joinL
  rw [List.map_map, show ((fun x : ByteArray => x.data.toList) ∘ mkB) = id from funext fun x => by simp [mkB_data], List.map_id, join_split]
 exact Ev.congr (fun k => (preI_1 k b hb4).trans (by rw [ej])) (Ev.now _)
def encL (l : List ByteArray) : List UInt8 := l.flatMap fun p => UInt8.ofNat p.size :: p.data.toList
theorem lb_loop (parts : List ByteArray) (hp : ∀ p ∈ parts, p.size ≤ 100) (hl : parts.length ≤ 1000) : ∀ (m i : Nat) (acc : ByteArray), i + m = parts.length → acc.size + m * 1024 < 1099511627776 →
 Ev (fun k => impl_labelBytes.l0 k acc parts (parts.length : Int) (i : Int)) (acc ++ mkB (encL (parts.drop i)))
 | 0, i, acc, him, ha => by
  rw [List.drop_of_length_le (by omega), show acc ++ mkB (encL []) = acc by apply ext_data; simp [encL, mkB_data]]
  exact Ev.step (f := fun _ => some acc) (fun k => by rw [impl_labelBytes.l0, if_neg (by omega)]) (Ev.now _)
 | m + 1, i, acc, him, ha => by
  have hi : i < parts.length := by omega
  have hs : ∀ v : Int, (strOfNums [v]).size = 1 := fun v => by rw [strOfNums_size]; rfl
  have hpi := hp _ (List.getElem_mem hi)
  have ih := lb_loop parts hp hl m (i + 1) (acc ++ (strOfNums [((parts[i].size : Int)) % 256] ++ parts[i])) (by omega) (by
   rw [ByteArray.size_append, ByteArray.size_append, hs]; omega)
  have e : (acc ++ (strOfNums [((parts[i].size : Int)) % 256] ++ parts[i])) ++ mkB (encL (parts.drop (i + 1))) = acc ++ mkB (encL (parts.drop i)) := by
   rw [List.drop_eq_getElem_cons hi, show ((parts[i].size : Int)) % 256 = (parts[i].size : Int) by omega]
   generalize parts.drop (i + 1) = D
   generalize parts[i] = x
   apply ext_data
   unfold encL strOfNums
   simp [mkB_data]
  rw [e] at ih
  refine Ev.step (fun k => ?_) ih
  show impl_labelBytes.l0 (k + 1) acc parts (parts.length : Int) (i : Int) = _
  conv => lhs; unfold impl_labelBytes.l0
  rw [if_pos (by omega), if_pos (by omega), if_pos (by omega), nb_rd _ _ hi, Option.bind_some, if_pos (by rw [hs]; omega), if_pos (by rw [ByteArray.size_append, hs]; omega), w64n (by omega)]
theorem lb_enc (s : ByteArray) (h : goodL s.data.toList = true) : Ev (fun k => impl_labelBytes.f k s) (mkB (encL ((labelsL s.data.toList).map mkB))) := by
 have hg := good_size h
 obtain ⟨g1, g2⟩ := good_all h
 have hss := size_len s
 have := lb_loop ((labelsL s.data.toList).map mkB) (by
  intro p hp
  obtain ⟨x, hx, rfl⟩ := List.mem_map.1 hp
  have := label_size (g2 x hx)
  rw [mkB_size]
  omega) (by rw [List.length_map]; omega) _ 0 (⟨#[]⟩ : ByteArray) (Nat.zero_add _) (by rw [List.length_map]; show 0 + _ < _; omega)
 rw [List.drop_zero, show (⟨#[]⟩ : ByteArray) ++ mkB (encL ((labelsL s.data.toList).map mkB)) = mkB (encL ((labelsL s.data.toList).map mkB)) by apply ext_data; simp [mkB_data]] at this
 refine Ev.congr (f := fun k => impl_labelBytes.l0 k (⟨#[]⟩ : ByteArray) ((labelsL s.data.toList).map mkB) (((labelsL s.data.toList).map mkB).length : Int) 0) (fun k => ?_) this
 unfold impl_labelBytes.f
 rw [labelsOf_eq s (by omega)]
 rfl
theorem byteAt_mkB (x : List UInt8) (i : Nat) (h : i < x.length) : byteAt (mkB x) i = (x[i]).toNat := by
 unfold byteAt
 rw [bt_mkB x i h]
 omega
theorem reads_enc : ∀ (ls : List ByteArray) (pre : List UInt8), (∀ x ∈ ls, isLabelL x.data.toList = true) → ∃ pl, Reads (mkB (pre ++ (encL ls ++ [0]))) pre.length 0 ls pl (pre.length + (encL ls).length + 1)
 | [], pre, h => by
  refine ⟨[], ?_⟩
  have hb : byteAt (mkB (pre ++ (encL [] ++ [0]))) pre.length = 0 := by
   rw [byteAt_mkB _ _ (by simp [encL])]
   simp [encL]
  exact .fin pre.length 0 (by rw [mkB_size]; simp [encL]) hb
 | x :: xs, pre, h => by
  have hx := h x (List.mem_cons_self ..)
  have hs1 := label_size hx
  have hs2 := label_pos hx
  rw [← size_len] at hs1 hs2
  have ee : encL (x :: xs) = UInt8.ofNat x.size :: (x.data.toList ++ encL xs) := by simp [encL]
  have el : pre ++ (encL (x :: xs) ++ [0]) = (pre ++ UInt8.ofNat x.size :: x.data.toList) ++ (encL xs ++ [0]) := by rw [ee]; simp
  obtain ⟨pl, ih⟩ := reads_enc xs (pre ++ UInt8.ofNat x.size :: x.data.toList) (fun y hy => h y (List.mem_cons_of_mem _ hy))
  have hlen : (pre ++ UInt8.ofNat x.size :: x.data.toList).length = pre.length + 1 + x.size := by
   rw [List.length_append, List.length_cons, ← size_len]; omega
  have hb : byteAt (mkB (pre ++ (encL (x :: xs) ++ [0]))) pre.length = x.size := by
   rw [byteAt_mkB _ _ (by rw [ee]; simp)]
   have : (pre ++ (encL (x :: xs) ++ [0]))[pre.length]'(by rw [ee]; simp) = UInt8.ofNat x.size := by
    simp [ee]
   rw [this, UInt8.toNat_ofNat']
   omega
  have hz : (mkB (pre ++ (encL (x :: xs) ++ [0]))).size = pre.length + 1 + x.size + (encL xs).length + 1 := by
   rw [mkB_size, el, List.length_append, hlen, List.length_append]
   simp
   omega
  have hraw : rawL (mkB (pre ++ (encL (x :: xs) ++ [0]))) pre.length = x.data.toList := by
   unfold rawL
   rw [hb, mkB_data, ee]
   have : (pre ++ (UInt8.ofNat x.size :: (x.data.toList ++ encL xs) ++ [0])).drop (pre.length + 1) = x.data.toList ++ (encL xs ++ [0]) := by
    rw [show pre ++ (UInt8.ofNat x.size :: (x.data.toList ++ encL xs) ++ [0]) = (pre ++ [UInt8.ofNat x.size]) ++ (x.data.toList ++ (encL xs ++ [0])) by simp]
    rw [List.drop_append_of_le_length (by simp), List.drop_of_length_le (by simp), List.nil_append]
   rw [this, List.take_append_of_le_length (by rw [← size_len]; omega), List.take_of_length_le (by rw [← size_len]; omega)]
  have hlow : mkB ((rawL (mkB (pre ++ (encL (x :: xs) ++ [0]))) pre.length).map lowB) = x := by
   rw [hraw, label_low hx, data_mkB]
  rw [← el, hlen] at ih
  have := Reads.lab pre.length 0 xs pl _ (by rw [hb]; omega) (by rw [hb]; omega) (by rw [hb, hz]; omega) (by rw [hb]; exact ih)
  rw [hlow] at this
  refine ⟨(pre.length : Int) :: pl, ?_⟩
  have e2 : pre.length + (encL (x :: xs)).length + 1 = pre.length + 1 + x.size + (encL xs).length + 1 := by
   rw [ee, List.length_cons, List.length_append, ← size_len]; omega
  rw [e2]
  exact this
theorem name_reads (s : ByteArray) (h : goodL s.data.toList = true) : Ev (fun k => impl_nameIn.f k (mkB (encL ((labelsL s.data.toList).map mkB) ++ [0]))) s := by
 obtain ⟨g1, g2⟩ := good_all h
 have hlab : ∀ x ∈ (labelsL s.data.toList).map mkB, isLabelL x.data.toList = true := by
  intro x hx
  obtain ⟨q, hq, rfl⟩ := List.mem_map.1 hx
  rw [mkB_data]
  exact g2 q hq
 obtain ⟨pl, hr⟩ := reads_enc ((labelsL s.data.toList).map mkB) [] hlab
 rw [List.nil_append] at hr
 obtain ⟨r, e1, _, e3⟩ := nb_both s h
 have hz := good_size h
 rw [← size_len] at hz
 have hsz : (mkB (encL ((labelsL s.data.toList).map mkB) ++ [0])).size ≤ 600 := by
  have := congrArg ByteArray.size (Ev.unique (lb_enc s h) e1)
  rw [mkB_size] at this
  rw [mkB_size, List.length_append, this, e3]
  simp only [List.length_cons, List.length_nil]
  split <;> omega
 have ht := reads_take (mkB (encL ((labelsL s.data.toList).map mkB) ++ [0])) hsz hr [] [] (-1) (by rw [List.length_map]; simpa using g1) (by simp)
 rw [List.nil_append, name_back h] at ht
 exact Ev.bind (f := fun _ bt292 => some bt292.1) ht (Ev.now _)
theorem cut_at (s : ByteArray) (hs : s.size ≤ 1048576) (p r : List UInt8) (h1 : s.data.toList = p ++ 32 :: r) (h2 : ∀ x ∈ p, x ≠ 32) : strings_Cut.f s (⟨#[32]⟩ : ByteArray) = some (mkB p, mkB r, true) := by
 have hix : Lib.indexByte s.data.toList 32 = (p.length : Int) := by
  rcases place_or 32 s.data.toList with ⟨_, g2⟩ | ⟨p', r', g1, g2, g3⟩
  · exact absurd rfl (g2 32 (by rw [h1]; simp))
  · have e : p' :: splitL 32 r' = p :: splitL 32 r := by rw [← splitL_hit 32 p' r' g2, ← g1, h1, splitL_hit 32 p r h2]
    rw [g3, (List.cons.inj e).1]
 have hl : p.length + (r.length + 1) = s.size := by rw [size_len, h1]; simp
 unfold strings_Cut.f stringslite_Cut.f internal_stringslite_Index.f
 rw [if_pos (show (⟨#[32]⟩ : ByteArray).size = 1 from rfl)]
 simp only [Option.bind_some]
 rw [show List.headD (⟨#[32]⟩ : ByteArray).data.toList 0 = 32 from rfl, show (⟨#[32]⟩ : ByteArray).size = 1 from rfl, hix, show (((1 : Nat) : Int)) = 1 from rfl, w64n (by omega), if_pos (by omega), if_pos (by omega), if_pos (by omega), if_pos (by omega), if_pos (by omega), Int.toNat_natCast, Int.toNat_natCast, ext_mkB, ext_end]
 have e1 : (s.data.toList.drop 0).take (p.length - 0) = p := by rw [h1]; simp
 have e2 : s.data.toList.drop (p.length + 1) = r := by
  rw [h1, show p ++ 32 :: r = (p ++ [32]) ++ r by simp, List.drop_append_of_le_length (by simp), List.drop_of_length_le (by simp), List.nil_append]
 rw [e1, e2]
 rfl
end Go.Proofs.YtiegkjimpclmaaaGreatDoor.Pure
namespace Go.Proofs.YtiegkjimpclmaaaGreatDoor.Pure
open Go.RowKit Go.Proofs.YtiegkjimpclmaaaGreatDoor.P Go.Proofs.YtiegkjimpclmaaaGreatDoorW.PrintWords Go.Proofs.YtiegkjimpclmaaaGreatDoorW.PrintLast Go.Proofs.YtiegkjimpclmaaaGreatDoorW.PrintMore
set_option linter.unusedVariables false
set_option linter.unusedSimpArgs false
open Classical in
noncomputable def gd (r : IRec) : Bool := decide (Ev (fun k => impl_GoodRecord.f k r.f0 r.f1 r.f2 r.f3) true)
open Classical in
noncomputable def bt (r : IRec) : List UInt8 := if h : ∃ x : ByteArray, Ev (fun k => impl_DataBytes.f k r.f1 r.f3) (x, true) then (Classical.choose h).data.toList else []
noncomputable def od (q r : IRec) : Int := ordR q.f0.data.toList q.f1 q.f2 (bt q) r.f0.data.toList r.f1 r.f2 (bt r)
def SmR (r : IRec) : Prop := Small r.f0 ∧ Small r.f3
def SmS (s : SSet) : Prop := Small s.f0 ∧ ∀ z ∈ s.f3, Small z
open Classical in
theorem gd_iff (r : IRec) : gd r = true ↔ Ev (fun k => impl_GoodRecord.f k r.f0 r.f1 r.f2 r.f3) true := by
 unfold gd
 exact decide_eq_true_iff
theorem gd_ev (r : IRec) (h : SmR r) : Ev (fun k => impl_GoodRecord.f k r.f0 r.f1 r.f2 r.f3) (gd r) ∧ Ev (fun k => spec_GoodRecord.f k r.f0 r.f1 r.f2 r.f3) (gd r) := by
 obtain ⟨b, q, r1, r2, _⟩ := goodrec_both r.f0 r.f1 r.f2 r.f3 h.1 h.2
 have e : gd r = b := by
  cases b with
  | true => exact (gd_iff r).2 r2
  | false => exact Bool.eq_false_iff.2 fun h => by cases Ev.unique ((gd_iff r).1 h) r2
 rw [e]
 exact ⟨r2, r1⟩
theorem bt_eq {r : IRec} (hs : SmR r) (h : gd r = true) : ∃ x : ByteArray, bt r = x.data.toList ∧ Ev (fun k => spec_l3Bytes.f k r.f1 r.f3) (x, true) ∧ Ev (fun k => impl_DataBytes.f k r.f1 r.f3) (x, true) := by
 have hg := (gd_iff r).1 h
 obtain ⟨x, x1, x2⟩ := good_bytes r.f1 r.f3 r.f0 r.f2 hs.1 hs.2 hg
 have he : ∃ x : ByteArray, Ev (fun k => impl_DataBytes.f k r.f1 r.f3) (x, true) := ⟨x, x2⟩
 refine ⟨x, ?_, x1, x2⟩
 unfold bt
 rw [dif_pos he, (Prod.mk.inj (Ev.unique (Classical.choose_spec he) x2)).1]
theorem od_ev {q r : IRec} (hq : SmR q) (hr : SmR r) (gq : gd q = true) (gr : gd r = true) :
 Ev (fun k => impl_compareRecords.f k q.f0 q.f1 q.f2 q.f3 r.f0 r.f1 r.f2 r.f3) (od q r) ∧ Ev (fun k => spec_l3Compare.f k q.f0 q.f1 q.f2 q.f3 r.f0 r.f1 r.f2 r.f3) (od q r) := by
 obtain ⟨x, ex, x1, x2⟩ := bt_eq hq gq
 obtain ⟨y, ey, y1, y2⟩ := bt_eq hr gr
 obtain ⟨_, p, _⟩ := good_parts q.f0 q.f1 q.f2 q.f3 hq.1 hq.2 ((gd_iff q).1 gq)
 obtain ⟨_, p', _⟩ := good_parts r.f0 r.f1 r.f2 r.f3 hr.1 hr.2 ((gd_iff r).1 gr)
 unfold od
 rw [ex, ey]
 exact ⟨implOrd_ev _ _ _ _ _ _ _ _ _ _ hq.1 hr.1 x2 y2, specOrd_ev _ _ _ _ _ _ _ _ _ _ hq.1 hr.1 p p' x1 y1⟩
noncomputable def rise : Option IRec → List IRec → Bool
 | _, [] => true
 | p, r :: R => gd r && (p.all (fun q => decide (od q r < 0)) && rise (some r) R)
def recs (a : ByteArray) (b c : Int) (ds : List ByteArray) : List IRec := ds.map fun d => ⟨a, b, c, d⟩
def recsOf (s : SSet) : List IRec := recs s.f0 s.f1 s.f2 s.f3
theorem recs_len (a : ByteArray) (b c : Int) (ds : List ByteArray) : (recs a b c ds).length = ds.length := by simp [recs]
theorem flat_len (l : List SSet) : (l.flatMap recsOf).length = cntS l := by
 induction l with
 | nil => rfl
 | cons s l ih => rw [List.flatMap_cons, List.length_append, cntS_cons, ih]; unfold recsOf; rw [recs_len]
def kd (q s : SSet) : Int := or2 (ordL q.f0.data.toList s.f0.data.toList) (cmpI q.f1 s.f1)
def one (q s : SSet) : Prop := q.f0 = s.f0 ∧ q.f1 = s.f1
noncomputable def iv : Option SSet → Nat → List SSet → Bool
 | _, _, [] => true
 | p, n, s :: l => !s.f3.isEmpty && (decide (n + s.f3.length ≤ 60) && (p.all (fun q => decide (kd q s < 0)) && (rise none (recsOf s) && iv (some s) (n + s.f3.length) l)))
noncomputable def sv : Option IRec → List SSet → Bool
 | _, [] => true
 | p, s :: l => !s.f3.isEmpty && (rise p (recsOf s) && sv (recsOf s).getLast? l)
def dk : Option SSet → List SSet → Prop
 | _, [] => True
 | p, s :: l => (∀ q, p = some q → ¬ one q s) ∧ dk (some s) l
def link (p : Option SSet) (pr : Option IRec) : Prop := (p = none ∧ pr = none) ∨ ∃ q r, p = some q ∧ pr = some r ∧ r.f0 = q.f0 ∧ r.f1 = q.f1
def new (r : IRec) : SSet := ⟨r.f0, r.f1, r.f2, [r.f3]⟩
def gstep (acc : List SSet) (r : IRec) : Option (List SSet) :=
 match acc.getLast? with
 | none => some (acc ++ [new r])
 | some s => if s.f0 = r.f0 ∧ s.f1 = r.f1 then (if s.f2 = r.f2 then some (acc.set (acc.length - 1) ⟨s.f0, s.f1, s.f2, s.f3 ++ [r.f3]⟩) else none) else some (acc ++ [new r])
def gf : List SSet → List IRec → Option (List SSet)
 | acc, [] => some acc
 | acc, r :: R => (gstep acc r).bind fun a => gf a R
end Go.Proofs.YtiegkjimpclmaaaGreatDoor.Pure
