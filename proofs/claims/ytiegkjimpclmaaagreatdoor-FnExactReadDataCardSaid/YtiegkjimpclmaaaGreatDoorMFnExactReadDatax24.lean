/- FnExactReadData: part 25 of 26 of my texts for this claim, joined; the theorem stands in the last. Conditions: none beyond the statement's. -/
import Derived.Test.YtiegkjimpclmaaaGreatDoorMFnExactReadDatax22
import Derived.Test.YtiegkjimpclmaaaGreatDoorMFnExactReadDatax23
import Derived.Test.YtiegkjimpclmaaaGreatDoorMFnExactReadDatax18
import Derived.Test.YtiegkjimpclmaaaGreatDoorMFnExactReadDatax8
import Derived.Test.YtiegkjimpclmaaaGreatDoorMFnExactReadDatax11
import Derived.Test.YtiegkjimpclmaaaGreatDoorMFnExactReadDatax19
-- PureReadData
/- Reading data: what the reference and the program return at the same text before data. Conditions: the sizes. -/
namespace Go.Proofs.YtiegkjimpclmaaaGreatDoor.Pure
open Go.RowKit Go.Proofs.YtiegkjimpclmaaaGreatDoor.P Go.Proofs.YtiegkjimpclmaaaGreatDoorW.PrintWords Go.Proofs.YtiegkjimpclmaaaGreatDoorW.PrintLast Go.Proofs.YtiegkjimpclmaaaGreatDoorW.PrintMore
set_option linter.unusedVariables false
set_option linter.unusedSimpArgs false
def noB : ByteArray := (⟨#[]⟩ : ByteArray)
def finS (k : Nat) (kind : Int) (b d : ByteArray) : Option (ByteArray × Bool) := (spec_l3Bytes.f k kind d).bind fun bt => (if bt.2 = true then (if bt.1.toList = b.toList then (some (d, true)) else (some ((⟨#[]⟩ : ByteArray), false))) else (some ((⟨#[]⟩ : ByteArray), false)))
def finR (b d : ByteArray) (r : ByteArray × Bool) : ByteArray × Bool := if r.2 = true ∧ r.1.toList = b.toList then (d, true) else badD
theorem finS_ev {kind : Int} {b d : ByteArray} {r : ByteArray × Bool} (h : Ev (fun k => specData k kind d) r) : Ev (fun k => finS k kind b d) (finR b d r) := by
  obtain ⟨K, h⟩ := h
  refine ⟨K, fun n hn => ?_⟩
  have h1 := h n hn
  simp only [specData] at h1
  obtain ⟨q, hq, h1⟩ := Option.bind_eq_some_iff.mp h1
  simp only [finS]
  rw [hq, Option.bind_some]
  by_cases c : q.2 = true
  · rw [if_pos c] at h1
    rw [if_pos c]
    obtain rfl := Option.some.inj h1
    unfold finR
    by_cases e : q.1.toList = b.toList
    · rw [if_pos e, if_pos ⟨rfl, e⟩]
    · rw [if_neg e, if_neg (fun x => e x.2)]; rfl
  · rw [if_neg c] at h1
    rw [if_neg c]
    obtain rfl := Option.some.inj h1
    unfold finR
    rw [if_neg (fun x => by cases x.1)]; rfl
theorem finI_ev {kind : Int} {b d : ByteArray} {r : ByteArray × Bool} (h : Ev (fun k => impl_DataBytes.f k kind d) r) : Ev (fun k => finI k kind b d) (finR b d r) := by
  unfold finI
  refine Ev.bind h ?_
  unfold finR
  exact Ev.now _
theorem big_size {n c : Int} {k : Nat} {t : ByteArray} (h : impl_big.f k n c = some t) : (c = 1 → t.size = 1) ∧ (c = 2 → t.size = 2) ∧ (c = 4 → t.size = 4) := by
  have e : Ev (fun k => impl_big.f k n c) t := Ev.of (fun k => impl_big.mono _ _ _) h
  refine ⟨fun hc => ?_, fun hc => ?_, fun hc => ?_⟩
  · subst hc; rw [Ev.unique e (big1 n), strOfNums_size]; rfl
  · subst hc; rw [Ev.unique e (big2 n), strOfNums_size]; rfl
  · subst hc; rw [Ev.unique e (big4 n), strOfNums_size]; rfl
theorem l0_size : ∀ (k : Nat) (parts : List ByteArray) (out : ByteArray) (i : Nat) (r : ByteArray × Bool), impl_DataBytes.l0 k parts out (i : Int) = some r → r.2 = true → i ≤ parts.length → parts.length < 1099511627776 → (i < parts.length → parts.length = 4) ∧ r.1.size = out.size + (parts.length - i)
  | 0, parts, out, i, r, h, h2, hi, hl => by simp [impl_DataBytes.l0] at h
  | k + 1, parts, out, i, r, h, h2, hi, hl => by
    unfold impl_DataBytes.l0 at h
    by_cases c : (i : Int) < (parts.length : Int)
    · rw [if_pos c, if_pos (by omega)] at h
      obtain ⟨b, hb, h⟩ := Option.bind_eq_some_iff.mp h
      by_cases c2 : b.2 = true
      · rw [if_pos c2] at h
        by_cases c4 : (parts.length : Int) = 4
        · rw [if_pos c4] at h
          obtain ⟨t, ht, h⟩ := Option.bind_eq_some_iff.mp h
          have hz := (big_size ht).1 rfl
          by_cases c5 : out.size + t.size ≤ 9223372036854775807
          · rw [if_pos c5, w64n (by omega)] at h
            have := l0_size k parts (out ++ t) (i + 1) r h h2 (by omega) hl
            rw [ByteArray.size_append] at this
            exact ⟨fun _ => by omega, by omega⟩
          · rw [if_neg c5] at h; cases h
        · rw [if_neg c4] at h
          obtain rfl := Option.some.inj h
          cases h2
      · rw [if_neg c2] at h
        obtain rfl := Option.some.inj h
        cases h2
    · rw [if_neg c] at h
      obtain rfl := Option.some.inj h
      exact ⟨fun x => by omega, by show out.size = _; omega⟩
theorem lab_size {k : Nat} {s lb : ByteArray} (ht : impl_isTarget.f s = some true) (h : impl_labelBytes.f k s = some lb) : lb.size = s.size + 1 ∧ s.size ≤ 60 ∧ s.size ≠ 0 := by
  have e : Ev (fun k => impl_labelBytes.f k s) lb := Ev.of (fun k => impl_labelBytes.mono _ _) h
  have hT : targL s.data.toList = true := Option.some.inj ((target_impl s).symm.trans ht)
  have hg := targ_good hT
  obtain ⟨r, g1, _, g3⟩ := nb_both s hg
  have hz := good_size hg
  rw [← size_len] at hz
  have hne : s.size ≠ 0 := by
    intro e0
    rw [size_len] at e0
    rw [List.length_eq_zero_iff.mp e0] at hT
    simp [targL] at hT
  rw [Ev.unique e g1, g3, if_neg hne]
  exact ⟨rfl, by omega, hne⟩
theorem data_size {k : Nat} {kind : Int} {d : ByteArray} {r : ByteArray × Bool} (hd : d.size ≤ 1048576) (h : impl_DataBytes.f k kind d = some r) (h2 : r.2 = true) :
    r.1.size ≤ 100 ∧ (kind = 1 → r.1.size = 4 ∨ r.1.size = 0) ∧ (kind = 2 ∨ kind = 5 → r.1.size = d.size + 2 ∧ d.size ≠ 0) ∧
    (kind = 15 → ∃ c, strings_Cut.f d (⟨#[32]⟩ : ByteArray) = some c ∧ r.1.size = c.2.1.size + 4 ∧ c.2.1.size ≠ 0) := by
  unfold impl_DataBytes.f at h
  by_cases k1 : kind = 1
  · rw [if_pos k1] at h
    obtain ⟨parts, hp, h⟩ := Option.bind_eq_some_iff.mp h
    have hpl : parts.length < 1099511627776 := by
      unfold strings_Split.f at hp
      rw [if_pos (show (⟨#[46]⟩ : ByteArray).size = 1 from rfl), if_pos (by omega)] at hp
      obtain rfl := Option.some.inj hp
      rw [List.length_map]
      have := splitL_len ((⟨#[46]⟩ : ByteArray).data.toList.headD 0) d.data.toList
      rw [← size_len] at this
      omega
    have h3 := l0_size k parts _ 0 r h h2 (by omega) hpl
    have h4 : (⟨#[]⟩ : ByteArray).size = 0 := rfl
    rw [h4] at h3
    by_cases c : 0 < parts.length
    · have := h3.1 c
      exact ⟨by omega, fun _ => .inl (by omega), fun e => by omega, fun e => by omega⟩
    · exact ⟨by omega, fun _ => .inr (by omega), fun e => by omega, fun e => by omega⟩
  rw [if_neg k1] at h
  by_cases k2 : kind = 2 ∨ kind = 5
  · rw [if_pos k2] at h
    unfold dataNs at h
    obtain ⟨t, ht, h⟩ := Option.bind_eq_some_iff.mp h
    cases t with
    | false => rw [if_neg (by decide)] at h; obtain rfl := Option.some.inj h; cases h2
    | true =>
      rw [if_pos rfl] at h
      obtain ⟨lb, hlb, h⟩ := Option.bind_eq_some_iff.mp h
      have hz := lab_size ht hlb
      rw [if_pos (by omega)] at h
      obtain rfl := Option.some.inj h
      have e : (lb ++ (⟨#[0]⟩ : ByteArray)).size = lb.size + 1 := by rw [ByteArray.size_append]; rfl
      exact ⟨by show (lb ++ (⟨#[0]⟩ : ByteArray)).size ≤ _; omega, fun e => by omega, fun _ => ⟨by show (lb ++ (⟨#[0]⟩ : ByteArray)).size = _; omega, hz.2.2⟩, fun e => by omega⟩
  rw [if_neg k2] at h
  by_cases k6 : kind = 6
  · rw [if_pos k6] at h
    unfold dataSoa at h
    obtain ⟨b, hb, h⟩ := Option.bind_eq_some_iff.mp h
    by_cases c : b.2 = true
    · rw [if_pos c] at h
      obtain ⟨t, ht, h⟩ := Option.bind_eq_some_iff.mp h
      have hz := (big_size ht).2.2 rfl
      obtain rfl := Option.some.inj h
      exact ⟨by show t.size ≤ _; omega, fun e => by omega, fun e => by omega, fun e => by omega⟩
    · rw [if_neg c] at h; obtain rfl := Option.some.inj h; cases h2
  rw [if_neg k6] at h
  by_cases k15 : kind = 15
  · rw [if_pos k15] at h
    unfold dataMx at h
    obtain ⟨c, hc, h⟩ := Option.bind_eq_some_iff.mp h
    obtain ⟨b, hb, h⟩ := Option.bind_eq_some_iff.mp h
    by_cases cb : b.2 = true
    · rw [if_pos cb] at h
      obtain ⟨t, ht, h⟩ := Option.bind_eq_some_iff.mp h
      cases t with
      | false => rw [if_neg (by decide)] at h; obtain rfl := Option.some.inj h; cases h2
      | true =>
        rw [if_pos rfl] at h
        obtain ⟨g, hg, h⟩ := Option.bind_eq_some_iff.mp h
        obtain ⟨lb, hlb, h⟩ := Option.bind_eq_some_iff.mp h
        have hz := lab_size ht hlb
        have hgz := (big_size hg).2.1 rfl
        rw [if_pos (by omega), if_pos (by omega)] at h
        obtain rfl := Option.some.inj h
        have e : ((g ++ lb) ++ (⟨#[0]⟩ : ByteArray)).size = g.size + lb.size + 1 := by rw [ByteArray.size_append, ByteArray.size_append]; rfl
        exact ⟨by show ((g ++ lb) ++ (⟨#[0]⟩ : ByteArray)).size ≤ _; omega, fun e => by omega, fun e => by omega, fun _ => ⟨c, hc, by show ((g ++ lb) ++ (⟨#[0]⟩ : ByteArray)).size = _; omega, hz.2.2⟩⟩
    · rw [if_neg cb] at h; obtain rfl := Option.some.inj h; cases h2
  rw [if_neg k15] at h
  by_cases k16 : kind = 16
  · rw [if_pos k16] at h
    unfold dataTxt at h
    by_cases c : (d.size : Int) > 30
    · rw [if_pos c] at h; obtain rfl := Option.some.inj h; cases h2
    rw [if_neg c] at h
    split at h
    · obtain rfl := Option.some.inj h; cases h2
    obtain ⟨t, ht, h⟩ := Option.bind_eq_some_iff.mp h
    have hz := (big_size ht).1 rfl
    rw [if_pos (by omega)] at h
    obtain rfl := Option.some.inj h
    exact ⟨by show (t ++ d).size ≤ _; rw [ByteArray.size_append]; omega, fun e => by omega, fun e => by omega, fun e => by omega⟩
  · rw [if_neg k16] at h; obtain rfl := Option.some.inj h; cases h2
/-- What a reading returns at the same text before data. -/
theorem fin_both (kind : Int) (b d : ByteArray) (hd : d.size ≤ 1048576) : ∃ q, Ev (fun k => finS k kind b d) q ∧ Ev (fun k => finI k kind b d) q ∧ ((∀ k r, impl_DataBytes.f k kind d = some r → r.2 = true → r.1.size ≠ b.size) → q = badD) := by
  obtain ⟨r, h1, h2⟩ := data_both kind d hd
  refine ⟨finR b d r, finS_ev h1, finI_ev h2, fun hb => ?_⟩
  obtain ⟨k, hk⟩ := Ev.rounds h2
  unfold finR
  rw [if_neg]
  rintro ⟨e1, e2⟩
  refine hb k r hk e1 ?_
  rw [Lib.toList_data, Lib.toList_data] at e2
  rw [size_len, size_len, e2]
theorem both_of (kind : Int) (b dS dI : ByteArray) (hS : dS.size ≤ 1048576) (hI : dI.size ≤ 1048576) (S : ∀ q, Ev (fun k => finS k kind b dS) q → Ev (fun k => spec_ReadData.f k kind b) q) (hp : Ev (fun k => preI k kind b) dI)
    (hsame : dS = dI ∨ ((∀ k r, impl_DataBytes.f k kind dS = some r → r.2 = true → r.1.size ≠ b.size) ∧ (∀ k r, impl_DataBytes.f k kind dI = some r → r.2 = true → r.1.size ≠ b.size))) :
    ∃ q, Ev (fun k => spec_ReadData.f k kind b) q ∧ Ev (fun k => impl_ReadData.f k kind b) q := by
  have I : ¬ 100 < b.size → ∀ q, Ev (fun k => finI k kind b dI) q → Ev (fun k => impl_ReadData.f k kind b) q := fun hn q hq => by
    unfold impl_ReadData.f
    simp only [if_neg hn]
    exact Ev.bind hp hq
  obtain ⟨q, g1, g2, g3⟩ := fin_both kind b dS hS
  by_cases hb : 100 < b.size
  · refine ⟨q, S q g1, ?_⟩
    rw [g3 (fun k r h e => by have := (data_size hS h e).1; omega)]
    unfold impl_ReadData.f
    simp only [if_pos hb]
    exact Ev.now _
  · rcases hsame with rfl | ⟨h1, h2⟩
    · exact ⟨q, S q g1, I hb q g2⟩
    · obtain ⟨q', f1, f2, f3⟩ := fin_both kind b dI hI
      refine ⟨badD, ?_, ?_⟩
      · rw [g3 h1] at g1
        exact S _ g1
      · rw [f3 h2] at f2
        exact I hb _ f2
theorem name_ev {b : ByteArray} {r : ByteArray × Int × List Int × Bool} (h : Ev (fun k => spec_l2Take.f k b 0) r) : Ev (fun k => spec_l3Name.f k b) (if (b.size : Int) = 0 then noB else (if r.2.2.2 = true then (if r.2.1 = (b.size : Int) then r.1 else noB) else noB)) := by
  unfold spec_l3Name.f
  by_cases h0 : (b.size : Int) = 0
  · simp only [if_pos h0]
    exact Ev.now _
  · simp only [if_neg h0]
    refine Ev.bind h ?_
    by_cases h1 : r.2.2.2 = true
    · simp only [if_pos h1]
      by_cases h2 : r.2.1 = (b.size : Int)
      · simp only [if_pos h2]; exact Ev.now _
      · simp only [if_neg h2]; exact Ev.now _
    · simp only [if_neg h1]; exact Ev.now _
theorem noB_of {v : ByteArray} (h : v.size = 0) : v = noB := by
  apply ext_data
  rw [size_len] at h
  rw [List.length_eq_zero_iff.mp h]
  rfl
theorem names_in (b : ByteArray) (hb : b.size ≤ 600) : ∃ u v, Ev (fun k => spec_l3Name.f k b) u ∧ Ev (fun k => impl_nameIn.f k b) v ∧ u.size ≤ 1000 ∧ v.size ≤ 1000 ∧ (u = v ∨ (u = noB ∧ v.size ≠ 0 ∧ v.size + 2 ≠ b.size)) := by
  obtain ⟨r, r', g1, g2, g3, g4⟩ := take_both b hb 0 (Nat.zero_le _)
  have g1' : Ev (fun k => spec_l2Take.f k b 0) r := g1
  have g2' : Ev (fun k => impl_takeName.f k b 0) r' := g2
  refine ⟨_, r'.1, name_ev g1', Ev.bind g2' (Ev.now _), ?_⟩
  by_cases ho : r'.2.2.2 = true
  · rw [ho] at g3
    obtain ⟨e1, e2, e3, e4, e5, e6⟩ := g4 g3
    obtain ⟨k, hk⟩ := Ev.rounds g2'
    obtain ⟨ls, pl, en, f1, f2, f3, f4, f5⟩ := taken b hb (a := 0) hk ho
    obtain ⟨f6, f7⟩ := labels_back f3
    have hz := good_size f6
    rw [← size_len] at hz
    rw [if_neg (by omega), if_pos g3]
    by_cases c : r.2.1 = (b.size : Int)
    · rw [if_pos c, e1]
      exact ⟨by omega, by omega, .inl rfl⟩
    · rw [if_neg c]
      refine ⟨by show 0 ≤ 1000; omega, by omega, ?_⟩
      by_cases hv : r'.1.size = 0
      · exact .inl (noB_of hv).symm
      · refine .inr ⟨rfl, hv, fun e => c ?_⟩
        have hn : r'.1.data.toList ≠ [] := fun e => hv (by rw [size_len, e]; rfl)
        have hl := reads_len f1 rfl
        have hsum : (ls.map fun x => 1 + x.size).sum = r'.1.size + 1 := by
          rw [f7, List.map_map, show ((fun x : ByteArray => 1 + x.size) ∘ mkB) = fun p : List UInt8 => 1 + p.length from funext fun p => by simp [mkB_size]]
          unfold labelsL
          rw [if_neg hn, split_sum, ← size_len]
        rw [e2, f5]
        omega
  · have ho' : r'.2.2.2 = false := by simpa using ho
    rw [ho'] at g3
    have hv := take_fail b hb g2' ho'
    rw [if_neg (show ¬ r.2.2.2 = true by rw [g3]; decide), ite_self, hv]
    exact ⟨by show 0 ≤ 1000; omega, by show 0 ≤ 1000; omega, .inl rfl⟩
theorem or64 (a c : Nat) (ha : a < 1099511627776) (hc : c < 256) : Go.bits .or .i64 (a : Int) (c : Int) = ((a ||| c : Nat) : Int) := by
  have hx : a ||| c < 2 ^ 40 := Nat.or_lt_two_pow (by omega) (by omega)
  have h1 : (BitVec.ofInt 64 (a : Int)).toNat = a := by
    rw [BitVec.ofInt_natCast, BitVec.toNat_ofNat]; exact Nat.mod_eq_of_lt (by omega)
  have h2 : (BitVec.ofInt 64 (c : Int)).toNat = c := by
    rw [BitVec.ofInt_natCast, BitVec.toNat_ofNat]; exact Nat.mod_eq_of_lt (by omega)
  show IntKind.i64.wrap ((BitVec.ofInt 64 (a : Int) ||| BitVec.ofInt 64 (c : Int)).toNat : Int) = _
  rw [BitVec.toNat_or, h1, h2, i64_w]
  unfold wrap64
  omega
theorem read_loop (b : ByteArray) (hb : b.size ≤ 4) : ∀ (m i n : Nat), i + m = b.size → n < 2 ^ (8 * i) → ∃ v : Nat, v < 2 ^ 32 ∧ Ev (fun k => spec_l3Read.l0 k b (n : Int) (i : Int)) (v : Int) ∧ Ev (fun k => impl_number.l0 k b (n : Int) (b.size : Int) (i : Int)) (v : Int)
  | 0, i, n, h, hn => by
    refine ⟨n, Nat.lt_of_lt_of_le hn (Nat.pow_le_pow_right (by omega) (by omega)), ?_, ?_⟩
    · exact Ev.step (f := fun _ => some (n : Int)) (fun k => by rw [spec_l3Read.l0, if_neg (by omega)]) (Ev.now _)
    · exact Ev.step (f := fun _ => some (n : Int)) (fun k => by rw [impl_number.l0, if_neg (by omega)]) (Ev.now _)
  | m + 1, i, n, h, hn => by
    have hr := bt_range b (i : Int)
    have hle : 2 ^ (8 * i) ≤ 2 ^ 24 := Nat.pow_le_pow_right (by omega) (by omega)
    obtain ⟨c, hc⟩ : ∃ c : Nat, bt b (i : Int) = (c : Int) := ⟨(bt b (i : Int)).toNat, by omega⟩
    rw [hc] at hr
    have h256 : 2 ^ (8 * (i + 1)) = 2 ^ (8 * i) * 256 := by rw [show 8 * (i + 1) = 8 * i + 8 by omega, Nat.pow_add]
    have h1 : n * 256 < 2 ^ (8 * (i + 1)) := by omega
    have h8 : 2 ^ 8 ≤ 2 ^ (8 * (i + 1)) := Nat.pow_le_pow_right (by omega) (by omega)
    have hor : n * 256 ||| c < 2 ^ (8 * (i + 1)) := Nat.or_lt_two_pow h1 (by omega)
    obtain ⟨v, g1, g2, g3⟩ := read_loop b hb m (i + 1) (n * 256 ||| c) (by omega) hor
    have ev : Go.bits .or .i64 (wrap64 ((n : Int) * 256)) (wrap64 (bt b (i : Int))) = ((n * 256 ||| c : Nat) : Int) := by
      rw [hc, show wrap64 ((n : Int) * 256) = ((n * 256 : Nat) : Int) by unfold wrap64; omega, show wrap64 (c : Int) = (c : Int) by unfold wrap64; omega, or64 _ _ (by omega) (by omega)]
    refine ⟨v, g1, ?_, ?_⟩
    · exact Ev.step (fun k => by rw [spec_l3Read.l0, if_pos (by omega), if_pos (by omega), ev, w64n (by omega)]) g2
    · exact Ev.step (fun k => by rw [impl_number.l0, if_pos (by omega), if_pos (by omega), if_pos (by omega), ev, w64n (by omega)]) g3
theorem read_num (b : ByteArray) (hb : b.size ≤ 4) : ∃ n : Int, 0 ≤ n ∧ n < 9223372036854775807 ∧ Ev (fun k => spec_l3Read.f k b) n ∧ Ev (fun k => impl_number.f k b) n := by
  obtain ⟨v, g1, g2, g3⟩ := read_loop b hb b.size 0 0 (by omega) (by decide)
  exact ⟨v, by omega, by omega, g2, g3⟩
theorem joinTail_snoc (x : List UInt8) : ∀ r : List (List UInt8), Lib.joinTail [46] (r ++ [x]) = Lib.joinTail [46] r ++ 46 :: x
  | [] => by simp [Lib.joinTail]
  | y :: r => by rw [List.cons_append, tail_cons, tail_cons, joinTail_snoc x r]; simp
theorem joinL_snoc (l : List ByteArray) (x : ByteArray) (h : l ≠ []) : joinL (l ++ [x]) = joinL l ++ 46 :: x.data.toList := by
  cases l with
  | nil => exact absurd rfl h
  | cons y r =>
    unfold joinL
    rw [List.map_append, List.map_cons, List.cons_append]
    rw [List.map_cons, List.map_nil, Lib.join_cons, Lib.join_cons, joinTail_snoc, List.append_assoc]
theorem bt_getD (b : ByteArray) (i : Nat) (h : i < b.size) : bt b (i : Int) = ((b.data.toList.getD i 0).toNat : Int) := by
  have hl : i < b.data.toList.length := by rw [← size_len]; exact h
  have := bt_mkB b.data.toList i hl
  rw [data_mkB] at this
  rw [this, List.getD_eq_getElem?_getD, List.getElem?_eq_getElem hl]
  rfl
theorem itoaB_it (n : Int) (h : 0 ≤ n) : itoaB n = itB n := by
  unfold itoaB itB Lib.itoa
  rw [if_neg (by omega)]
  rfl
theorem dots_size (b : ByteArray) (i : Nat) : (mkB (joinL ((partsI b).take i))).size ≤ b.size * 21 := by
  rw [mkB_size]
  have h1 := joinL_len ((partsI b).take i) (fun x hx => parts_size b x (List.mem_of_mem_take hx))
  have h2 := List.length_take_le' i (partsI b)
  rw [parts_len] at h2
  omega
theorem a_spec (b : ByteArray) (hb : b.size ≤ 600) {q : ByteArray × Bool} (hq : Ev (fun k => finS k 1 b (mkB (joinL (partsI b)))) q) : ∀ (m i : Nat), i + m = b.size → Ev (fun k => spec_ReadData.l0 k 1 b (mkB (joinL ((partsI b).take i))) (i : Int)) q
  | 0, i, h => by
    rw [List.take_of_length_le (by rw [parts_len]; omega)]
    exact Ev.step (fun k => by rw [spec_ReadData.l0, if_neg (by omega)]; rfl) hq
  | m + 1, i, h => by
    have ih := a_spec b hb hq m (i + 1) (by omega)
    have hz := dots_size b i
    have hr := bt_range b (i : Int)
    have hw : wrap64 (bt b (i : Int)) = bt b (i : Int) := by unfold wrap64; omega
    have hn := num_it (bt b (i : Int)) (by omega) (by omega)
    have hs := itB_size (bt b (i : Int)) (by omega) (by omega)
    rw [parts_next b i (by omega), ← bt_getD b i (by omega), itoaB_it _ (by omega)] at ih
    by_cases c : (i : Int) > 0
    · have hne : (partsI b).take i ≠ [] := fun e => by
        have := congrArg List.length e
        rw [List.length_take, parts_len, List.length_nil] at this
        omega
      rw [joinL_snoc _ _ hne] at ih
      have e : mkB (joinL ((partsI b).take i) ++ 46 :: (itB (bt b (i : Int))).data.toList) = (mkB (joinL ((partsI b).take i)) ++ (⟨#[46]⟩ : ByteArray)) ++ itB (bt b (i : Int)) := by
        apply ext_data
        rw [mkB_data]
        simp [mkB_data]
      rw [e] at ih
      have es : (mkB (joinL ((partsI b).take i)) ++ (⟨#[46]⟩ : ByteArray)).size = (mkB (joinL ((partsI b).take i))).size + 1 := by rw [ByteArray.size_append]; rfl
      refine Ev.step (fun k => by rw [spec_ReadData.l0, if_pos (by omega), if_pos c, if_pos (by omega), if_pos (by omega), hw]) (Ev.bind hn ?_)
      simp only [if_pos (show (mkB (joinL ((partsI b).take i)) ++ (⟨#[46]⟩ : ByteArray)).size + (itB (bt b (i : Int))).size ≤ 9223372036854775807 by omega)]
      rw [w64n (by omega)]
      exact ih
    · obtain rfl : i = 0 := by omega
      refine Ev.step (fun k => by rw [spec_ReadData.l0, if_pos (by omega), if_neg c, if_pos (by omega), hw]) (Ev.bind hn ?_)
      have e : mkB (joinL ((partsI b).take 0 ++ [itB (bt b ((0 : Nat) : Int))])) = mkB (joinL ((partsI b).take 0)) ++ itB (bt b ((0 : Nat) : Int)) := by
        apply ext_data
        rw [mkB_data]
        simp [joinL, Lib.join, Lib.joinTail, mkB_data]
      rw [e] at ih
      simp only [if_pos (show (mkB (joinL ((partsI b).take 0))).size + (itB (bt b ((0 : Nat) : Int))).size ≤ 9223372036854775807 by omega)]
      rw [w64n (by omega)]
      exact ih
end Go.Proofs.YtiegkjimpclmaaaGreatDoor.Pure

-- PureFnExactReadData
/- ReadData: the reference and the program return the same. Conditions: none beyond the statement's. -/
namespace Go.Proofs.YtiegkjimpclmaaaGreatDoor.Pure
open Go.RowKit Go.Proofs.YtiegkjimpclmaaaGreatDoor.P Go.Proofs.YtiegkjimpclmaaaGreatDoorW.PrintWords Go.Proofs.YtiegkjimpclmaaaGreatDoorW.PrintLast
set_option linter.unusedVariables false
set_option linter.unusedSimpArgs false
theorem j1_eq (k : Nat) (kind : Int) (b : ByteArray) (x : Bool) : spec_ReadData.j1 (k + 1) kind b noB kind x = if x = true then ((spec_l3Name.f k b).bind fun t => finS k kind b t) else (if kind = 6 then (if (b.size : Int) = 4 then ((spec_l3Read.f k b).bind fun n => ((spec_l1Num.f k n).bind fun t => finS k kind b t)) else finS k kind b noB) else (if kind = 15 then (if (b.size : Int) > 2 then (if 0 ≤ 2 then (if 2 ≤ (b.size : Int) then ((spec_l3Read.f k (b.extract 0 2)).bind fun n => ((spec_l1Num.f k n).bind fun t => (if t.size + 1 ≤ 9223372036854775807 then ((spec_l3Name.f k (b.extract 2 b.size)).bind fun u => (if (t ++ (⟨#[32]⟩ : ByteArray)).size + u.size ≤ 9223372036854775807 then finS k kind b ((t ++ (⟨#[32]⟩ : ByteArray)) ++ u) else none)) else none))) else none) else none) else finS k kind b noB) else (if kind = 16 then (if (b.size : Int) > 0 then (if 1 ≤ (b.size : Int) then finS k kind b (b.extract 1 b.size) else none) else finS k kind b noB) else finS k kind b noB))) := rfl
theorem preI_none {kind : Int} {b : ByteArray} (k1 : ¬ (kind = 1 ∧ b.size = 4)) (k2 : ¬ (kind = 2 ∨ kind = 5)) (k6 : ¬ (kind = 6 ∧ b.size = 4)) (k15 : ¬ (kind = 15 ∧ 2 < b.size)) (k16 : ¬ (kind = 16 ∧ 0 < b.size)) : Ev (fun k => preI k kind b) noB := by
  unfold preI
  simp only [if_neg k1, if_neg k2, if_neg k6, if_neg k15, if_neg k16]
  exact Ev.now _
theorem cut_at (s : ByteArray) (hs : s.size ≤ 1048576) (p r : List UInt8) (h1 : s.data.toList = p ++ 32 :: r) (h2 : ∀ x ∈ p, x ≠ 32) : strings_Cut.f s (⟨#[32]⟩ : ByteArray) = some (mkB p, mkB r, true) := by
  have hix : Lib.indexByte s.data.toList 32 = (p.length : Int) := by
    rcases place_or 32 s.data.toList with ⟨_, g2⟩ | ⟨p', r', g1, g2, g3⟩
    · exact absurd rfl (g2 32 (by rw [h1]; simp))
    · have e : p' :: splitL 32 r' = p :: splitL 32 r := by rw [← splitL_hit 32 p' r' g2, ← g1, h1, splitL_hit 32 p r h2]
      rw [g3, (List.cons.inj e).1]
  have hl : p.length + (r.length + 1) = s.size := by rw [size_len, h1]; simp
  unfold strings_Cut.f stringslite_Cut.f internal_stringslite_Index.f
  rw [if_pos (show (⟨#[32]⟩ : ByteArray).size = 1 from rfl)]
  simp only [Option.bind_some]
  rw [show List.headD (⟨#[32]⟩ : ByteArray).data.toList 0 = 32 from rfl, show (⟨#[32]⟩ : ByteArray).size = 1 from rfl, hix, show (((1 : Nat) : Int)) = 1 from rfl, w64n (by omega), if_pos (by omega), if_pos (by omega), if_pos (by omega), if_pos (by omega), if_pos (by omega), Int.toNat_natCast, Int.toNat_natCast, ext_mkB, ext_end]
  have e1 : (s.data.toList.drop 0).take (p.length - 0) = p := by rw [h1]; simp
  have e2 : s.data.toList.drop (p.length + 1) = r := by
    rw [h1, show p ++ 32 :: r = (p ++ [32]) ++ r by simp, List.drop_append_of_le_length (by simp), List.drop_of_length_le (by simp), List.nil_append]
  rw [e1, e2]
  rfl
theorem dig_no (u : Nat) : ∀ x ∈ Lib.decDigits u, x ≠ 32 := by
  intro x hx e
  have h := (digits_all u u (Nat.le_refl _)).1
  have := List.all_eq_true.mp h x hx
  rw [e] at this
  exact absurd this (by decide)
theorem cut_num (n : Int) (h0 : 0 ≤ n) (h1 : n < 9223372036854775807) (v : ByteArray) (hv : v.size ≤ 1000) : strings_Cut.f ((itB n ++ (⟨#[32]⟩ : ByteArray)) ++ v) (⟨#[32]⟩ : ByteArray) = some (itB n, v, true) := by
  have hz := itB_size n h0 h1
  have := cut_at ((itB n ++ (⟨#[32]⟩ : ByteArray)) ++ v) (by rw [ByteArray.size_append, ByteArray.size_append, show (⟨#[32]⟩ : ByteArray).size = 1 from rfl]; omega) (Lib.decDigits n.toNat) v.data.toList (by unfold itB; simp [mkB_data]) (dig_no _)
  rw [this, data_mkB]
  rfl
theorem read_both (kind : Int) (b : ByteArray) (hb : b.size ≤ 1048576) : ∃ q, Ev (fun k => spec_ReadData.f k kind b) q ∧ Ev (fun k => impl_ReadData.f k kind b) q := by
  by_cases h6 : (b.size : Int) > 600
  · refine ⟨badD, ?_, ?_⟩
    · unfold spec_ReadData.f
      simp only [if_pos h6]
      exact Ev.now _
    · unfold impl_ReadData.f
      simp only [if_pos (show 100 < b.size by omega)]
      exact Ev.now _
  have hb6 : b.size ≤ 600 := by omega
  have z0 : noB.size = 0 := rfl
  by_cases k1 : kind = 1
  · subst k1
    have hz := dots_size b b.size
    rw [List.take_of_length_le (by rw [parts_len]; omega)] at hz
    have S : ∀ q, Ev (fun k => finS k 1 b (mkB (joinL (partsI b)))) q → Ev (fun k => spec_ReadData.f k 1 b) q := fun q hq => by
      refine Ev.congr (fun k => ?_) (a_spec b hb6 hq b.size 0 (by omega))
      unfold spec_ReadData.f
      rw [if_neg h6, if_pos rfl]
      rfl
    by_cases c4 : b.size = 4
    · refine both_of 1 b _ _ (by omega) (by omega) S ?_ (.inl rfl)
      exact Ev.congr (fun k => by unfold preI; rw [if_pos ⟨rfl, c4⟩]) (Ev.now _)
    · refine both_of 1 b _ noB (by omega) (by omega) S (preI_none (fun e => c4 e.2) (by omega) (by omega) (by omega) (by omega)) ?_
      by_cases c0 : b.size = 0
      · exact .inl (noB_of (by omega))
      · exact .inr ⟨fun k r h e => by have := (data_size (by omega) h e).2.1 rfl; omega, fun k r h e => by have := (data_size (by omega) h e).2.1 rfl; omega⟩
  by_cases k2 : kind = 2 ∨ kind = 5
  · obtain ⟨u, v, g1, g2, g3, g4, g5⟩ := names_in b hb6
    refine both_of kind b u v (by omega) (by omega) (fun q hq => ?_) ?_ ?_
    · refine Ev.congr (f := fun k => spec_ReadData.j1 k kind b noB kind true) (fun k => ?_) (Ev.step (fun k => (j1_eq k kind b true).trans (if_pos rfl)) (Ev.bind g1 hq))
      unfold spec_ReadData.f
      rw [if_neg h6, if_neg k1]
      rcases k2 with rfl | rfl
      · rw [if_pos rfl]; rfl
      · rw [if_neg (by decide)]; rfl
    · unfold preI
      simp only [if_neg (show ¬ (kind = 1 ∧ b.size = 4) from fun e => k1 e.1), if_pos k2]
      exact g2
    · rcases g5 with rfl | ⟨rfl, n1, n2⟩
      · exact .inl rfl
      · exact .inr ⟨fun k r h e => absurd z0 ((data_size (by omega) h e).2.2.1 k2).2, fun k r h e => by have := (data_size (by omega) h e).2.2.1 k2; omega⟩
  have hs : ∀ k, spec_ReadData.f k kind b = spec_ReadData.j1 k kind b noB kind false := fun k => by
    unfold spec_ReadData.f
    rw [if_neg h6, if_neg k1, if_neg (by omega), show (kind == 5) = false from beq_eq_false_iff_ne.mpr (by omega)]
    rfl
  have hj : ∀ {g : Nat → Option (ByteArray × Bool)} {q : ByteArray × Bool}, (∀ k, spec_ReadData.j1 (k + 1) kind b noB kind false = g k) → Ev g q → Ev (fun k => spec_ReadData.f k kind b) q := fun h e => Ev.congr hs (Ev.step h e)
  have n1 : ¬ (kind = 1 ∧ b.size = 4) := fun e => k1 e.1
  by_cases k6 : kind = 6
  · by_cases c : b.size = 4
    · obtain ⟨n, a1, a2, a3, a4⟩ := read_num b (by omega)
      have hz := itB_size n a1 a2
      refine both_of kind b (itB n) (itB n) (by omega) (by omega) (fun q hq => ?_) ?_ (.inl rfl)
      · exact hj (fun k => by rw [j1_eq, if_neg (by decide), if_pos k6, if_pos (by omega)]) (Ev.bind a3 (Ev.bind (num_it n a1 a2) hq))
      · unfold preI
        simp only [if_neg n1, if_neg k2, if_pos (⟨k6, c⟩ : kind = 6 ∧ b.size = 4)]
        refine Ev.bind a4 ?_
        rw [itoa_it n a1 a2]
        exact Ev.now _
    · exact both_of kind b noB noB (by omega) (by omega) (fun q hq => hj (fun k => by rw [j1_eq, if_neg (by decide), if_pos k6, if_neg (by omega)]) hq) (preI_none n1 k2 (fun e => c e.2) (by omega) (by omega)) (.inl rfl)
  have n6 : ¬ (kind = 6 ∧ b.size = 4) := fun e => k6 e.1
  by_cases k15 : kind = 15
  · by_cases c : 2 < b.size
    · have hz2 : (b.extract 0 2).size = 2 := by rw [ByteArray.size_extract]; omega
      have hzr : (b.extract 2 b.size).size = b.size - 2 := by rw [ByteArray.size_extract]; omega
      obtain ⟨n, a1, a2, a3, a4⟩ := read_num (b.extract 0 2) (by omega)
      have hz := itB_size n a1 a2
      obtain ⟨u, v, g1, g2, g3, g4, g5⟩ := names_in (b.extract 2 b.size) (by omega)
      have e1 : ∀ x : ByteArray, ((itB n ++ (⟨#[32]⟩ : ByteArray)) ++ x).size = (itB n).size + 1 + x.size := fun x => by rw [ByteArray.size_append, ByteArray.size_append]; rfl
      have e2 : (itB n ++ (⟨#[32]⟩ : ByteArray)).size = (itB n).size + 1 := by rw [ByteArray.size_append]; rfl
      refine both_of kind b ((itB n ++ (⟨#[32]⟩ : ByteArray)) ++ u) ((itB n ++ (⟨#[32]⟩ : ByteArray)) ++ v) (by rw [e1]; omega) (by rw [e1]; omega) (fun q hq => ?_) ?_ ?_
      · refine hj (fun k => by rw [j1_eq, if_neg (by decide), if_neg k6, if_pos k15, if_pos (by omega), if_pos (by decide), if_pos (by omega)]) (Ev.bind a3 (Ev.bind (num_it n a1 a2) ?_))
        simp only [if_pos (show (itB n).size + 1 ≤ 9223372036854775807 by omega)]
        refine Ev.bind g1 ?_
        simp only [if_pos (show (itB n ++ (⟨#[32]⟩ : ByteArray)).size + u.size ≤ 9223372036854775807 by omega)]
        exact hq
      · unfold preI
        simp only [if_neg n1, if_neg k2, if_neg n6, if_pos (⟨k15, c⟩ : kind = 15 ∧ 2 < b.size)]
        refine Ev.bind a4 ?_
        rw [itoa_it n a1 a2]
        simp only [Option.bind_some]
        refine Ev.bind g2 ?_
        simp only [if_pos (show (itB n).size + v.size ≤ 1000000 by omega)]
        exact Ev.now _
      · rcases g5 with rfl | ⟨rfl, m1, m2⟩
        · exact .inl rfl
        · refine .inr ⟨fun k r h e => ?_, fun k r h e => ?_⟩
          · obtain ⟨x, f1, f2, f3⟩ := (data_size (by rw [e1]; omega) h e).2.2.2 k15
            rw [cut_num n a1 a2 _ (by omega)] at f1
            obtain rfl := Option.some.inj f1
            exact absurd z0 f3
          · obtain ⟨x, f1, f2, f3⟩ := (data_size (by rw [e1]; omega) h e).2.2.2 k15
            rw [cut_num n a1 a2 _ (by omega)] at f1
            obtain rfl := Option.some.inj f1
            show r.1.size ≠ b.size
            replace f2 : r.1.size = v.size + 4 := f2
            omega
    · exact both_of kind b noB noB (by omega) (by omega) (fun q hq => hj (fun k => by rw [j1_eq, if_neg (by decide), if_neg k6, if_pos k15, if_neg (by omega)]) hq) (preI_none n1 k2 n6 (fun e => c e.2) (by omega)) (.inl rfl)
  by_cases k16 : kind = 16
  · by_cases c : 0 < b.size
    · have hz : (b.extract 1 b.size).size ≤ b.size := by rw [ByteArray.size_extract]; omega
      refine both_of kind b (b.extract 1 b.size) (b.extract 1 b.size) (by omega) (by omega) (fun q hq => hj (fun k => by rw [j1_eq, if_neg (by decide), if_neg k6, if_neg k15, if_pos k16, if_pos (by omega), if_pos (by omega)]) hq) ?_ (.inl rfl)
      unfold preI
      simp only [if_neg n1, if_neg k2, if_neg n6, if_neg (show ¬ (kind = 15 ∧ 2 < b.size) from fun e => k15 e.1), if_pos (⟨k16, c⟩ : kind = 16 ∧ 0 < b.size)]
      exact Ev.now _
    · exact both_of kind b noB noB (by omega) (by omega) (fun q hq => hj (fun k => by rw [j1_eq, if_neg (by decide), if_neg k6, if_neg k15, if_pos k16, if_neg (by omega)]) hq) (preI_none n1 k2 n6 (fun e => k15 e.1) (fun e => c e.2)) (.inl rfl)
  · exact both_of kind b noB noB (by omega) (by omega) (fun q hq => hj (fun k => by rw [j1_eq, if_neg (by decide), if_neg k6, if_neg k15, if_neg k16]) hq) (preI_none n1 k2 n6 (fun e => k15 e.1) (fun e => k16 e.1)) (.inl rfl)
theorem FnExactReadData : laws_FnExactReadData.Pure := by
  intro a0 a1 _ _
  by_cases hb : (a1.size : Int) > 1048576
  · exact ⟨0, by unfold laws_FnExactReadData.f; rw [if_pos hb]⟩
  · obtain ⟨q, g1, g2⟩ := read_both a0 a1 (by omega)
    apply Ev.rounds
    unfold laws_FnExactReadData.f
    simp only [if_neg hb]
    refine Ev.bind g1 (Ev.bind g2 ?_)
    rw [if_pos rfl, if_neg (by simp)]
    exact Ev.now _
end Go.Proofs.YtiegkjimpclmaaaGreatDoor.Pure
