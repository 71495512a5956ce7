/- FnExactSetsOf: part 23 of 28 of my texts for this claim, joined; the theorem stands in the last. Conditions: none beyond the statement's. -/
import Derived.Test.YtiegkjimpclmaaaGreatDoorMFnExactSetsOfx21
import Derived.RangeFuncNested
namespace Go.Proofs.YtiegkjimpclmaaaGreatDoor.Pure
open Go.RowKit Go.Proofs.YtiegkjimpclmaaaGreatDoor.P Go.Proofs.YtiegkjimpclmaaaGreatDoorW.PrintWords Go.Proofs.YtiegkjimpclmaaaGreatDoorW.PrintLast Go.Proofs.YtiegkjimpclmaaaGreatDoorW.PrintMore
set_option linter.unusedVariables false
set_option linter.unusedSimpArgs false
theorem a_small : ∀ (k i : Nat) (parts : List ByteArray) (out x : ByteArray), impl_DataBytes.l0 k parts out (i : Int) = some (x, true) → (∀ y ∈ parts, y.size ≤ 1048576) → parts.length < 1099511627776 → (i < parts.length → parts.length = 4) ∧ ∀ j (h : j < parts.length), i ≤ j → parts[j].size ≤ 10
 | 0, i, parts, out, x, h, hs, hl => by simp [impl_DataBytes.l0] at h
 | k + 1, i, parts, out, x, h, hs, hl => by
  unfold impl_DataBytes.l0 at h
  by_cases c1 : (i : Int) < (parts.length : Int)
  · have hi : i < parts.length := by omega
    have hsz := hs _ (List.getElem_mem hi)
    obtain ⟨v, hn1, hn2⟩ := number_eq parts[i] 255 (by omega) (by omega) (by omega)
    rw [if_pos c1, if_pos (by omega), td_rd parts i hi, hn1, Option.bind_some] at h
    by_cases hb : (canL parts[i].data.toList && decide ((valL parts[i].data.toList : Int) ≤ 255)) = true
    · rw [if_pos hb] at h
      by_cases h4 : (parts.length : Int) = 4
      · rw [if_pos h4] at h
        obtain ⟨t, ht, h⟩ := Option.bind_eq_some_iff.mp h
        by_cases ho : out.size + t.size ≤ 9223372036854775807
        · rw [if_pos ho, w64n (by omega)] at h
          have ih := a_small k (i + 1) parts _ x h hs hl
          refine ⟨fun _ => by omega, fun j hj hij => ?_⟩
          by_cases e : j = i
          · subst e
            rw [Bool.and_eq_true] at hb
            have hc := hb.1
            unfold canL at hc
            simp only [Bool.and_eq_true, decide_eq_true_eq] at hc
            rw [size_len]
            exact hc.1.1.2
          · exact ih.2 j hj (by omega)
        · rw [if_neg ho] at h; cases h
      · rw [if_neg h4] at h
        cases (Prod.mk.inj (Option.some.inj h)).2
    · rw [if_neg hb] at h
      cases (Prod.mk.inj (Option.some.inj h)).2
  · exact ⟨fun h2 => absurd h2 (by omega), fun j hj hij => absurd hj (by omega)⟩
theorem sum_le : ∀ l : List (List UInt8), (∀ p ∈ l, p.length ≤ 10) → (l.map fun p => 1 + p.length).sum ≤ 11 * l.length
 | [], _ => Nat.le_refl _
 | x :: r, h => by
  have ih := sum_le r fun p hp => h p (List.mem_cons_of_mem _ hp)
  have hx := h x List.mem_cons_self
  rw [List.map_cons, List.sum_cons, List.length_cons]
  omega
theorem can_len {l : List UInt8} {m : Int} (h : (canL l && decide ((valL l : Int) ≤ m)) = true) : l.length ≤ 10 := by
 rw [Bool.and_eq_true] at h
 have hc := h.1
 unfold canL at hc
 simp only [Bool.and_eq_true, decide_eq_true_eq] at hc
 exact hc.1.1.2
theorem cut_sizes {s q1 q2 : ByteArray} {q3 : Bool} (hs : s.size ≤ 1048576) (h : strings_Cut.f s (⟨#[32]⟩ : ByteArray) = some (q1, q2, q3)) : q1.size + q2.size ≤ s.size ∧ s.size ≤ q1.size + q2.size + 1 := by
 unfold strings_Cut.f stringslite_Cut.f internal_stringslite_Index.f at h
 rw [if_pos (show (⟨#[32]⟩ : ByteArray).size = 1 from rfl)] at h
 simp only [Option.bind_some] at h
 rw [show List.headD (⟨#[32]⟩ : ByteArray).data.toList 0 = 32 from rfl, show (⟨#[32]⟩ : ByteArray).size = 1 from rfl] at h
 rcases place_or 32 s.data.toList with ⟨h1, _⟩ | ⟨p, r, h1, _, h3⟩
 · rw [h1, if_neg (by omega)] at h
   simp only [Option.bind_some, Option.some.injEq, Prod.mk.injEq] at h
   obtain ⟨rfl, rfl, _⟩ := h
   exact ⟨Nat.le_refl _, by show s.size ≤ s.size + 0 + 1; omega⟩
 · have hl : p.length + (r.length + 1) = s.size := by rw [size_len, h1]; simp
   rw [h3, show (((1 : Nat) : Int)) = 1 from rfl, w64n (by omega), if_pos (by omega), if_pos (by omega), if_pos (by omega), if_pos (by omega), if_pos (by omega), Int.toNat_natCast, Int.toNat_natCast] at h
   simp only [Option.bind_some, Option.some.injEq, Prod.mk.injEq] at h
   obtain ⟨rfl, rfl, _⟩ := h
   rw [ByteArray.size_extract, ByteArray.size_extract]
   omega
theorem data_small {k : Nat} {kind : Int} {s x : ByteArray} (hs : s.size ≤ 1048576) (h : impl_DataBytes.f k kind s = some (x, true)) : s.size ≤ 100 := by
 unfold impl_DataBytes.f at h
 by_cases c1 : kind = 1
 · rw [if_pos c1] at h
   have hsp : strings_Split.f s (⟨#[46]⟩ : ByteArray) = some ((splitL 46 s.data.toList).map mkB) := by
    unfold strings_Split.f
    rw [if_pos (show (⟨#[46]⟩ : ByteArray).size = 1 from rfl), if_pos (by omega)]
    rfl
   rw [hsp, Option.bind_some] at h
   have hne := splitL_ne 46 s.data.toList
   have hpl : 0 < (splitL 46 s.data.toList).length := List.length_pos_iff.2 hne
   have hlen : (splitL 46 s.data.toList).length ≤ s.size + 1 := by rw [size_len]; exact splitL_len _ _
   have hg := a_small k 0 _ _ _ h (by
    intro y hy
    obtain ⟨q, hq, rfl⟩ := List.mem_map.1 hy
    have := splitL_part 46 _ q hq
    rw [← size_len] at this
    rw [mkB_size]
    omega) (by rw [List.length_map]; omega)
   have h4 := hg.1 (by rw [List.length_map]; exact hpl)
   rw [List.length_map] at h4
   have hsum := sum_le (splitL 46 s.data.toList) (by
    intro p hp
    obtain ⟨j, hj, rfl⟩ := List.mem_iff_getElem.1 hp
    have := hg.2 j (by rw [List.length_map]; exact hj) (Nat.zero_le _)
    rw [List.getElem_map, mkB_size] at this
    exact this)
   rw [split_sum, h4, ← size_len] at hsum
   omega
 · rw [if_neg c1] at h
   by_cases c2 : kind = 2 ∨ kind = 5
   · rw [if_pos c2] at h
     unfold dataNs at h
     rw [target_impl, Option.bind_some] at h
     by_cases ht : targL s.data.toList = true
     · have := good_size (targ_good ht)
       rw [← size_len] at this
       omega
     · rw [if_neg ht] at h
       cases (Prod.mk.inj (Option.some.inj h)).2
   · rw [if_neg c2] at h
     by_cases c6 : kind = 6
     · rw [if_pos c6] at h
       unfold dataSoa at h
       obtain ⟨v, hn1, _⟩ := number_eq s 4294967295 (by omega) (by omega) (by omega)
       rw [hn1, Option.bind_some] at h
       by_cases hb : (canL s.data.toList && decide ((valL s.data.toList : Int) ≤ 4294967295)) = true
       · have := can_len hb
         rw [← size_len] at this
         omega
       · rw [if_neg hb] at h
         cases (Prod.mk.inj (Option.some.inj h)).2
     · rw [if_neg c6] at h
       by_cases c15 : kind = 15
       · rw [if_pos c15] at h
         unfold dataMx at h
         obtain ⟨⟨q1, q2, q3⟩, hc, h⟩ := Option.bind_eq_some_iff.mp h
         have hcut : q1.size + q2.size ≤ s.size ∧ s.size ≤ q1.size + q2.size + 1 := cut_sizes hs hc
         obtain ⟨v, hn1, _⟩ := number_eq q1 65535 (by omega) (by omega) (by omega)
         rw [hn1, Option.bind_some] at h
         by_cases hb : (canL q1.data.toList && decide ((valL q1.data.toList : Int) ≤ 65535)) = true
         · rw [if_pos hb, target_impl, Option.bind_some] at h
           by_cases ht : targL q2.data.toList = true
           · have h1 := good_size (targ_good ht)
             have h2 := can_len hb
             rw [← size_len] at h1 h2
             omega
           · rw [if_neg ht] at h
             cases (Prod.mk.inj (Option.some.inj h)).2
         · rw [if_neg hb] at h
           cases (Prod.mk.inj (Option.some.inj h)).2
       · rw [if_neg c15] at h
         by_cases c16 : kind = 16
         · rw [if_pos c16] at h
           unfold dataTxt at h
           by_cases h30 : (s.size : Int) > 30
           · rw [if_pos h30] at h
             cases (Prod.mk.inj (Option.some.inj h)).2
           · omega
         · rw [if_neg c16] at h
           cases (Prod.mk.inj (Option.some.inj h)).2
theorem data_full (kind : Int) (s : ByteArray) (hs : s.size ≤ 1048576) : ∃ q, Ev (fun k => spec_l3Bytes.f k kind s) q ∧ Ev (fun k => impl_DataBytes.f k kind s) (if q.2 = true then (q.1, true) else badD) ∧ (q.2 = true → s.size ≤ 100) := by
 obtain ⟨r, ⟨K, h1⟩, h2⟩ := data_both kind s hs
 have h1 : specData K kind s = some r := h1 K (Nat.le_refl _)
 unfold specData at h1
 obtain ⟨q, hq, h1⟩ := Option.bind_eq_some_iff.mp h1
 have hQ : Ev (fun k => spec_l3Bytes.f k kind s) q := Ev.of (fun k => spec_l3Bytes.mono _ _ _) (k := K) hq
 have er : (if q.2 = true then (q.1, true) else badD) = r := by
  by_cases hq2 : q.2 = true
  · rw [if_pos hq2] at h1 ⊢
    exact Option.some.inj h1
  · rw [if_neg hq2] at h1 ⊢
    exact Option.some.inj h1
 refine ⟨q, hQ, by rw [er]; exact h2, fun hq2 => ?_⟩
 rw [if_pos hq2] at er
 obtain ⟨K2, h2⟩ := h2
 have h3 : impl_DataBytes.f K2 kind s = some r := h2 K2 (Nat.le_refl _)
 rw [← er] at h3
 exact data_small hs h3
theorem goodrec_both (a : ByteArray) (b c : Int) (d : ByteArray) (ha : a.size ≤ 1048576) (hd : d.size ≤ 1048576) : ∃ r q, Ev (fun k => spec_GoodRecord.f k a b c d) r ∧ Ev (fun k => impl_GoodRecord.f k a b c d) r ∧ Ev (fun k => spec_l3Bytes.f k b d) q ∧ Ev (fun k => impl_DataBytes.f k b d) (if q.2 = true then (q.1, true) else badD) ∧ r = (q.2 && (goodL a.data.toList && decide (0 ≤ c ∧ c ≤ 100000))) ∧ (q.2 = true → d.size ≤ 100) := by
 obtain ⟨q, q1, q2, q3⟩ := data_full b d hd
 refine ⟨q.2 && (goodL a.data.toList && decide (0 ≤ c ∧ c ≤ 100000)), q, ?_, ?_, q1, q2, rfl, q3⟩
 · refine Ev.congr (fun k => rfl) (Ev.bind q1 ?_)
   cases hq : q.2 with
   | false => exact Ev.now _
   | true =>
    refine Ev.bind (specGood_ev a (by omega)) ?_
    cases hg : goodL a.data.toList with
    | false => exact Ev.now _
    | true =>
     simp only [if_true, within_spec, Option.bind_some, Bool.true_and]
     exact Ev.now _
 · cases hg : goodL a.data.toList with
   | false =>
    rw [Bool.false_and, Bool.and_false]
    refine Ev.congr (fun k => ?_) (Ev.now _)
    unfold impl_GoodRecord.f impl_GoodName.f
    rw [hg]
    rfl
   | true =>
    by_cases hc : 0 ≤ c ∧ c ≤ 100000
    · rw [decide_eq_true hc, Bool.true_and, Bool.and_true]
      by_cases h100 : (d.size : Int) > 100
      · have hf : q.2 = false := by
         rw [Bool.eq_false_iff]
         intro h
         have := q3 h
         omega
        rw [hf]
        refine Ev.congr (fun k => ?_) (Ev.now _)
        unfold impl_GoodRecord.f impl_GoodName.f
        rw [hg, Option.bind_some, if_pos rfl, within_eq, Option.bind_some, decide_eq_true hc, if_pos rfl, if_pos h100]
      · refine Ev.congr (f := fun k => (impl_DataBytes.f k b d).bind fun bt237 => (some bt237.2)) (fun k => ?_) (Ev.bind q2 ?_)
        · unfold impl_GoodRecord.f impl_GoodName.f
          rw [hg, Option.bind_some, if_pos rfl, within_eq, Option.bind_some, decide_eq_true hc, if_pos rfl, if_neg h100]
        · cases q.2 with
          | false => exact Ev.now _
          | true => exact Ev.now _
    · rw [decide_eq_false hc, Bool.and_false, Bool.and_false]
      refine Ev.congr (fun k => ?_) (Ev.now _)
      unfold impl_GoodRecord.f impl_GoodName.f
      rw [hg, Option.bind_some, if_pos rfl, within_eq, Option.bind_some, decide_eq_false hc, if_neg (by simp)]
theorem data_kind {k : Nat} {kind : Int} {s x : ByteArray} (h : impl_DataBytes.f k kind s = some (x, true)) : 1 ≤ kind ∧ kind ≤ 16 := by
 unfold impl_DataBytes.f at h
 by_cases c : 1 ≤ kind ∧ kind ≤ 16
 · exact c
 · rw [if_neg (by omega), if_neg (by omega), if_neg (by omega), if_neg (by omega), if_neg (by omega)] at h
   cases (Prod.mk.inj (Option.some.inj h)).2
theorem good_parts (a : ByteArray) (b c : Int) (d : ByteArray) (ha : a.size ≤ 1048576) (hd : d.size ≤ 1048576) (h : Ev (fun k => impl_GoodRecord.f k a b c d) true) : a.size ≤ 60 ∧ goodL a.data.toList = true ∧ (1 ≤ b ∧ b ≤ 16) ∧ (0 ≤ c ∧ c ≤ 100000) ∧ d.size ≤ 100 := by
 obtain ⟨r, q, r1, r2, q1, ⟨K, q2⟩, hr, hs⟩ := goodrec_both a b c d ha hd
 have e := Ev.unique h r2
 subst e
 have hr := hr.symm
 rw [Bool.and_eq_true, Bool.and_eq_true, decide_eq_true_eq] at hr
 have hK : impl_DataBytes.f K b d = some (if q.2 = true then (q.1, true) else badD) := q2 K (Nat.le_refl _)
 rw [if_pos hr.1] at hK
 have := good_size hr.2.1
 rw [← size_len] at this
 exact ⟨this, hr.2.1, data_kind hK, hr.2.2, hs hr.1⟩
theorem szRecAt (left : Int) (h0 : 0 ≤ left) (h1 : left ≤ 1048576) (a : ByteArray) (b c : Int) (d : ByteArray) (ha : a.size ≤ maxLen) (hd : d.size ≤ maxLen) : ∃ t, laws_szRecord.f a b c d left = some t ∧ (0 ≤ t → t ≤ left ∧ a.size ≤ 1048576 ∧ d.size ≤ 1048576) := by
 simp only [maxLen] at ha hd
 have h2 : wrap64 (left - (a.size : Int)) = left - (a.size : Int) := by unfold wrap64; omega
 unfold laws_szRecord.f
 rw [h2]
 by_cases c1 : left - (a.size : Int) < 0
 · exact ⟨-1, by rw [if_pos c1], fun h => by omega⟩
 · have h3 : wrap64 (left - (a.size : Int) - (d.size : Int)) = left - (a.size : Int) - (d.size : Int) := by unfold wrap64; omega
   rw [h3]
   by_cases c2 : left - (a.size : Int) - (d.size : Int) < 0
   · exact ⟨-1, by rw [if_neg c1, if_pos c2], fun h => by omega⟩
   · exact ⟨_, by rw [if_neg c1, if_neg c2], fun h => by omega⟩
end Go.Proofs.YtiegkjimpclmaaaGreatDoor.Pure
namespace Go.Proofs.YtiegkjimpclmaaaGreatDoor.Pure
open Go.RowKit Go.Proofs.YtiegkjimpclmaaaGreatDoor.P Go.Proofs.YtiegkjimpclmaaaGreatDoorW.PrintWords Go.Proofs.YtiegkjimpclmaaaGreatDoorW.PrintLast
set_option linter.unusedVariables false
set_option linter.unusedSimpArgs false
set_option linter.unusedSectionVars false
theorem tail_cons (y : List UInt8) (r : List (List UInt8)) : Lib.joinTail [46] (y :: r) = 46 :: (y ++ Lib.joinTail [46] r) := by simp [Lib.joinTail]
def smB (x : ByteArray) : ByteArray := mkB (x.data.toList.map lowB)
def InvL (L : List ByteArray) : Prop := ∀ x ∈ L, 1 ≤ x.size ∧ x.size ≤ 20 ∧ ∀ y ∈ x.data.toList, y ≠ 46
section
variable (s : ByteArray) (hs : s.size ≤ 600)
include hs
end
end Go.Proofs.YtiegkjimpclmaaaGreatDoor.Pure
namespace Go.Proofs.YtiegkjimpclmaaaGreatDoor.P
open Go.RowKit Go.Proofs.YtiegkjimpclmaaaGreatDoorW.PrintWords Go.Proofs.YtiegkjimpclmaaaGreatDoorW.PrintLast Go.Proofs.YtiegkjimpclmaaaGreatDoorW.PrintMore
set_option linter.unusedVariables false
set_option linter.unusedSimpArgs false
def itoaB (n : Int) : ByteArray := ⟨(Lib.itoa n).toArray⟩
def partsI (b : ByteArray) : List ByteArray := (bytesOf b).map itoaB
def preI (k : Nat) (kind : Int) (b : ByteArray) : Option ByteArray :=
 if kind = 1 ∧ b.size = 4 then some (mkB (joinL (partsI b)))
 else (if kind = 2 ∨ kind = 5 then impl_nameIn.f k b
 else (if kind = 6 ∧ b.size = 4 then (impl_number.f k b).bind fun n => strconv_Itoa.f n
 else (if kind = 15 ∧ 2 < b.size then (impl_number.f k (b.extract 0 2)).bind fun n => (strconv_Itoa.f n).bind fun t => (impl_nameIn.f k (b.extract 2 b.size)).bind fun s => (if t.size + s.size ≤ 1000000 then some ((t ++ (⟨#[32]⟩ : ByteArray)) ++ s) else none)
 else (if kind = 16 ∧ 0 < b.size then some (b.extract 1 b.size) else some (⟨#[]⟩ : ByteArray)))))
def finI (k : Nat) (kind : Int) (b d : ByteArray) : Option (ByteArray × Bool) := (impl_DataBytes.f k kind d).bind fun q => some (if q.2 = true ∧ q.1.toList = b.toList then (d, true) else badD)
def impl_ReadData.f (k : Nat) (kind : Int) (b : ByteArray) : Option (ByteArray × Bool) := if 100 < b.size then some badD else (preI k kind b).bind fun d => finI k kind b d
theorem preI.mono (a0 : Int) (a1 : ByteArray) (k : Nat) : LeO (preI k a0 a1) (preI (k + 1) a0 a1) := by
 unfold preI
 exact LeO.ite (LeO.refl _) (LeO.ite (impl_nameIn.mono _ _) (LeO.ite (LeO.bind (impl_number.mono _ _) fun _ => LeO.refl _) (LeO.ite (LeO.bind (impl_number.mono _ _) fun _ => LeO.bind (LeO.refl _) fun _ => LeO.bind (impl_nameIn.mono _ _) fun _ => LeO.refl _) (LeO.refl _))))
end Go.Proofs.YtiegkjimpclmaaaGreatDoor.P
namespace Go.Proofs.YtiegkjimpclmaaaGreatDoor.P
open Go.RowKit Go.Proofs.YtiegkjimpclmaaaGreatDoorW.PrintWords Go.Proofs.YtiegkjimpclmaaaGreatDoorW.PrintLast Go.Proofs.YtiegkjimpclmaaaGreatDoorW.PrintMore
attribute [local go_sem] max2_int min2_int max_two min_two max_three min_three max_four min_four
set_option linter.unusedVariables false
set_option linter.unusedSimpArgs false
mutual
def spec_ReadData.j2 : Nat → Int → ByteArray → ByteArray → Option (ByteArray × Bool)
 | 0, _, _, _ => none
 | k + 1, x0, x1, x6 => (spec_l3Bytes.f k x0 x6).bind fun bt197 => (if bt197.2 = true then (if bt197.1.toList = x1.toList then (some (x6, true)) else (some ((⟨#[]⟩ : ByteArray), false))) else (some ((⟨#[]⟩ : ByteArray), false)))
def spec_ReadData.l0 : Nat → Int → ByteArray → ByteArray → Int → Option (ByteArray × Bool)
 | 0, _, _, _, _ => none
 | k + 1, x0, x1, x6, x7 => if x7 < (x1.size : Int) then (if x7 > 0 then (if x6.size + 1 ≤ 9223372036854775807 then (if 0 ≤ x7 then ((spec_l1Num.f k (wrap64 (bt x1 x7))).bind fun t189 => (if (x6 ++ (⟨#[46]⟩ : ByteArray)).size + t189.size ≤ 9223372036854775807 then (spec_ReadData.l0 k x0 x1 ((x6 ++ (⟨#[46]⟩ : ByteArray)) ++ t189) (wrap64 (x7 + 1))) else (none))) else (none)) else (none)) else (if 0 ≤ x7 then ((spec_l1Num.f k (wrap64 (bt x1 x7))).bind fun t190 => (if x6.size + t190.size ≤ 9223372036854775807 then (spec_ReadData.l0 k x0 x1 (x6 ++ t190) (wrap64 (x7 + 1))) else (none))) else (none))) else (spec_ReadData.j2 k x0 x1 x6)
def spec_ReadData.j1 : Nat → Int → ByteArray → ByteArray → Int → Bool → Option (ByteArray × Bool)
 | 0, _, _, _, _, _ => none
 | k + 1, x0, x1, x6, x13, x33 => if x33 = true then ((spec_l3Name.f k x1).bind fun t191 => (spec_ReadData.j2 k x0 x1 t191)) else (if x13 = 6 then (if (x1.size : Int) = 4 then ((spec_l3Read.f k x1).bind fun t192 => ((spec_l1Num.f k t192).bind fun t193 => (spec_ReadData.j2 k x0 x1 t193))) else (spec_ReadData.j2 k x0 x1 x6)) else (if x13 = 15 then (if (x1.size : Int) > 2 then (if 0 ≤ 2 then (if 2 ≤ (x1.size : Int) then ((spec_l3Read.f k (x1.extract 0 2)).bind fun t194 => ((spec_l1Num.f k t194).bind fun t195 => (if t195.size + 1 ≤ 9223372036854775807 then ((spec_l3Name.f k (x1.extract 2 x1.size)).bind fun t196 => (if (t195 ++ (⟨#[32]⟩ : ByteArray)).size + t196.size ≤ 9223372036854775807 then (spec_ReadData.j2 k x0 x1 ((t195 ++ (⟨#[32]⟩ : ByteArray)) ++ t196)) else (none))) else (none)))) else (none)) else (none)) else (spec_ReadData.j2 k x0 x1 x6)) else (if x13 = 16 then (if (x1.size : Int) > 0 then (if 1 ≤ (x1.size : Int) then (spec_ReadData.j2 k x0 x1 (x1.extract 1 x1.size)) else (none)) else (spec_ReadData.j2 k x0 x1 x6)) else (spec_ReadData.j2 k x0 x1 x6))))
end
def spec_ReadData.f (k : Nat) (a0 : Int) (a1 : ByteArray) : Option (ByteArray × Bool) := if (a1.size : Int) > 600 then (some ((⟨#[]⟩ : ByteArray), false)) else (if a0 = 1 then (spec_ReadData.l0 k a0 a1 (⟨#[]⟩ : ByteArray) 0) else (if a0 = 2 then (spec_ReadData.j1 k a0 a1 (⟨#[]⟩ : ByteArray) a0 (a0 == 2)) else (spec_ReadData.j1 k a0 a1 (⟨#[]⟩ : ByteArray) a0 (a0 == 5))))
def spec_ReadData.T20 : Bool × List (List Nat × List Nat) := (true, [([], []), ([0], [0]), ([1], [1]), ([2, 2], [2]), ([3], [3]), ([], []), ([5], [5]), ([6, 3], [6]), ([4, 7], [4, 7]), ([8, 7, 0, 1, 2, 3, 4, 5, 6, 7, 8], [8])])
def spec_ReadData.B20 : List Nat := [0, 1, 3, 7, 15, 0, 32, 111, 255, 511]
end Go.Proofs.YtiegkjimpclmaaaGreatDoor.P
namespace Go.Proofs.YtiegkjimpclmaaaGreatDoor.P
open Go.RowKit Go.Shelf Go.Proofs.YtiegkjimpclmaaaGreatDoorW.PrintWords Go.Proofs.YtiegkjimpclmaaaGreatDoorW.PrintLast Go.Proofs.YtiegkjimpclmaaaGreatDoorW.PrintMore
set_option linter.unusedVariables false
set_option linter.unusedSimpArgs false
attribute [local go_sem] Oper.semAt_some
def cellsR (x : IR) : List Value := [.string x.f0, .int .i64 x.f1, .int .i64 x.f2, .string x.f3]
theorem cells_snoc (pre : List IR) (x : IR) : (pre ++ [x]).flatMap cellsR = pre.flatMap cellsR ++ cellsR x := by simp
theorem cells4_new (W : World) (x : IR) (j : Nat) (u : Value) (h : (cellsR x)[j]? = some u) : (W.alloc (.cells #[.string x.f0, .int .i64 x.f1, .int .i64 x.f2, .string x.f3] 45)).cell? ((⟨W.heap.size, 0, none⟩ : Addr).add j) = some u := by
  have e : (⟨W.heap.size, 0, none⟩ : Addr).add j = ⟨W.heap.size, j, none⟩ := by simp [Addr.add]; omega
  rw [e, blk_cell (World.alloc_heap_new W _) j, ← h]
  simp [cellsR]
theorem cells_one (x : IR) : ∀ u ∈ cellsR x, u.oneCell' = true := by
  intro u hu
  simp only [cellsR, List.mem_cons, List.not_mem_nil, or_false] at hu
  rcases hu with rfl | rfl | rfl | rfl <;> rfl
def AxR (w : World) (len cap : Nat) (sv : Value) (x : IR) (a' : Act) (W : World) : Prop :=
  ∃ B, a' = { tmps := #[.slice none 0 0, sv, .pointer (some ⟨w.heap.size, 0, none⟩), undef, .slice none 0 0, .pointer (some ⟨B, 0, none⟩), sv, encR x, undef, undef, undef, undef, undef], defers := [] } ∧ w.heap.size < B ∧ W.heap[B]? = some (.cells (cellsR x).toArray 45 (0, 0))
set_option maxRecDepth 100000 in
set_option maxHeartbeats 4000000 in
theorem append_in (F : Fence) (n : Nat) (h181 : F.fn 181) (h139 : F.fn 139) (hro : F.round = none) (hn : 3 ≤ n) (Bs : Nat) (w0 : World) (A : Option Addr) (cap : Nat) (xs : List IR) (hrow : Kd.C k45 w0 A xs.length xs) (hmax : xs.length ≤ 1048576)
    (w : World) (hB : Below w0.heap.size w0 w) (hBs : Bs < w.heap.size) (hc : w.cell? ⟨Bs, 0, none⟩ = some (.slice A xs.length cap)) :
    CallsIn F n Tryz.prog 181 #[.slice none 0 0, .func (.func 139) #[] #[.pointer (some ⟨Bs, 0, none⟩)]] w fun e W' => ∃ v, e = .returned v ∧ W'.ownsRow w.heap.size 45 4 v xs.length (xs.flatMap cellsR) ∧ (v = .slice none 0 0 ↔ xs = []) ∧ Below w.heap.size w W' := by
  have h1 : 1 ≤ n := by omega
  refine callsIn_of_wp_marks Tryz.func181 rfl h181 ?_ hro
  simp only [Tryz.ntmps181, List.size_toArray, List.length_cons, List.length_nil, Nat.reduceAdd, Nat.reduceSub, Array.replicate_succ, Array.replicate_zero, List.push_toArray, List.append_toArray, List.nil_append, List.cons_append]
  gi_wp2
  have bO := Boxed.new w 27 (.slice none 0 0)
  have hB1 : Below w.heap.size w (w.alloc (.cells #[.slice none 0 0] 27)) := (Below.refl _ w).alloc (Nat.le_refl _) _
  have hB0 : Below w0.heap.size w0 (w.alloc (.cells #[.slice none 0 0] 27)) := hB.alloc hB.size _
  refine wpIn_rangeFunc_ownH hro h1 (gf := 139) (lb := #[.pointer (some ⟨Bs, 0, none⟩)]) rfl h139 (enters_of Tryz.func139 (by kernel_rfl) rfl)
    (seq_stops F (n - 1) h139 hro (by omega) Bs w0 _ A cap xs hrow hmax hB0 (by simp; omega) ((hB1.cell (p := ⟨Bs, 0, none⟩) hBs).trans hc)) belowK_t (belowK_b (by have := hB.size; simp; omega)) (Below.refl _ _) (fun _ => rfl)
    (fun pre W => (∃ v, Boxed W w.heap.size 27 v ∧ W.ownsRow w.heap.size 45 4 v pre.length (pre.flatMap cellsR) ∧ (v = .slice none 0 0 ↔ pre = [])) ∧ Below w.heap.size w W)
    (fun _ _ _ => False)
    (OwnFrom.and (Own.from (holdsRow_own w.heap.size w.heap.size 27 45 4 (fun pre => pre.length) (fun pre => pre.flatMap cellsR) (fun pre v => v = .slice none 0 0 ↔ pre = [])) _) (ownFrom_below (Nat.le_refl _) (by simp)))
    (fun _ _ _ _ _ hs _ _ => hs)
    ⟨⟨_, bO, World.ownsRow_nil _ _ _ _, by simp⟩, hB1⟩
    (AxR w xs.length cap (.func (.func 139) #[] #[.pointer (some ⟨Bs, 0, none⟩)])) ?ax ?assign ?body ?done ?stop
  case ax =>
    rintro x a' s W W' row ⟨B, e, hlt, hb⟩ hg hr
    refine ⟨B, e, hlt, (hg.block B (Array.getElem?_eq_some_iff.1 hb).1 fun h => ?_).trans hb⟩
    obtain ⟨_, o, ho, hcl⟩ := hr B h.symm
    rw [hb] at ho; cases ho; cases hcl
  case assign =>
    intro l pre x W K hI hK
    obtain ⟨⟨v, hv, hrow', hnil⟩, hBW⟩ := hI
    unfold encR
    gi_wp2
    exact hK _ _ ((KeepsOthers.alloc _ _).from _) ((Below.refl _ W).alloc (Nat.le_trans hB.size hBW.size) _) ⟨⟨v, hv.alloc _, hrow'.alloc _, hnil⟩, hBW.alloc hBW.size _⟩ ⟨W.heap.size, rfl, hv.lt, World.alloc_heap_new W _⟩
  case body =>
    rintro l pre x a' W hl hlr ⟨⟨v, hv, hrow', hnil⟩, hBW⟩ ⟨B, rfl, hlt, hb⟩ hN
    obtain ⟨i0, hi, hz0, hz1, hz2⟩ := info_parts info45
    have hc := hv.cell
    have c0 := (blk_cell hb 0).trans (show _ = some (Value.string x.f0) from rfl)
    have c1 := (blk_cell hb 1).trans (show _ = some (Value.int .i64 x.f1) from rfl)
    have c2 := (blk_cell hb 2).trans (show _ = some (Value.int .i64 x.f2) from rfl)
    have c3 := (blk_cell hb 3).trans (show _ = some (Value.string x.f3) from rfl)
    have hsz := hBW.size
    have hW0 := Nat.le_trans hB.size hBW.size
    unfold encR
    have k1 : pre.length + 1 ≤ maxLen := by simp only [maxLen]; omega
    have k2 : (pre.length + 1) * 48 ≤ 140737488355328 := by omega
    gi_wp2_with (gi_at_builtin; refine wpListIn_append_own _ rfl _ _ 27 rfl w.heap.size 45 i0 (.agg #[.string ⟨#[]⟩, .int .i64 0, .int .i64 0, .string ⟨#[]⟩]) 4 48 Tryz.underlying27 hi hz0 hz1 hz2 rfl (by decide) v _ _ rfl (hrow'.alloc _) ⟨W.heap.size, 0, none⟩ 1 1 (cellsR x) rfl rfl (cells4_new W x) (cells_one x) k1 k2 (by simp; omega) ?_; intro v' w1 hown' hgrow _; obtain ⟨g', cap', rfl⟩ := ownsRow_succ hown'; obtain ⟨hv1, hv2, hr2, hk2, hb2⟩ := hv.appended (by decide) hrow' hBW.size (Nat.le_refl _) hown' hgrow; have hc1 := hv1.cell; have hf1 := hv1.frozen)
    exact ⟨hk2.from _, hb2.mono hB.size, ⟨_, hv2, by rw [cells_snoc, List.length_append]; exact hr2, by simp⟩, hBW.trans hb2⟩
  case done =>
    rintro D ys W hD rfl ⟨⟨v, hv, hrow', hnil⟩, hBW⟩ hK
    have hc := hv.cell
    gi_wp2
    refine ⟨by simp, .inl ⟨_, _, rfl, run_takeDeferred hK, ?_⟩⟩
    exact ⟨_, results_tmp rfl _ _ _, v, rfl, ownsRow_putObj hrow' _ hK rfl, hnil, hBW.trans (belowK_b (w := w) (Nat.le_refl _) W D _ _ (by simp at hD; omega) hK rfl rfl)⟩
  case stop =>
    rintro D c pre W _ _ h _
    exact h.elim
set_option maxRecDepth 100000 in
set_option maxHeartbeats 2000000 in
theorem collect_in (F : Fence) (n : Nat) (h137 : F.fn 137) (h181 : F.fn 181) (h139 : F.fn 139) (hro : F.round = none) (hn : 4 ≤ n) (Bs : Nat) (w0 : World) (A : Option Addr) (cap : Nat) (xs : List IR) (hrow : Kd.C k45 w0 A xs.length xs) (hmax : xs.length ≤ 1048576)
    (w : World) (hB : Below w0.heap.size w0 w) (hBs : Bs < w.heap.size) (hc : w.cell? ⟨Bs, 0, none⟩ = some (.slice A xs.length cap)) :
    CallsIn F n Tryz.prog 137 #[.func (.func 139) #[] #[.pointer (some ⟨Bs, 0, none⟩)]] w fun e W' => ∃ v, e = .returned v ∧ W'.ownsRow w.heap.size 45 4 v xs.length (xs.flatMap cellsR) ∧ (v = .slice none 0 0 ↔ xs = []) ∧ Below w.heap.size w W' := by
  refine callsIn_of_wp Tryz.func137 rfl h137 ?_ hro
  simp only [Tryz.ntmps137, List.size_toArray, List.length_cons, List.length_nil, Nat.reduceAdd, Nat.reduceSub, Array.replicate_succ, Array.replicate_zero, List.push_toArray, List.append_toArray, List.nil_append, List.cons_append]
  gi_wp2
  refine ⟨fun _ => by omega, (append_in F (n - 1) h181 h139 hro (by omega) Bs w0 A cap xs hrow hmax w hB hBs hc).mono ?_⟩
  rintro e w' ⟨v, rfl, ho, hnil, hb⟩
  gi_wp2
  go_ret
  exact ⟨_, rfl, ho, hnil, hb⟩
end Go.Proofs.YtiegkjimpclmaaaGreatDoor.P
namespace Go.Proofs.YtiegkjimpclmaaaGreatDoor.Pure
open Go.RowKit Go.Proofs.YtiegkjimpclmaaaGreatDoor.P Go.Proofs.YtiegkjimpclmaaaGreatDoorW.PrintWords Go.Proofs.YtiegkjimpclmaaaGreatDoorW.PrintLast Go.Proofs.YtiegkjimpclmaaaGreatDoorW.PrintMore
set_option linter.unusedVariables false
set_option linter.unusedSimpArgs false
abbrev LRec := S91
abbrev IRec := S45
def conv (x : LRec) : IRec := ⟨x.f0, x.f1, x.f2, x.f3⟩
theorem rdL (l : List LRec) (i : Nat) (h : i < l.length) : rd_T91 l (i : Int) = l[i] := by
 unfold rd_T91
 rw [Int.toNat_natCast, List.getD_eq_getElem?_getD, List.getElem?_eq_getElem h, Option.getD_some]
theorem rdI (l : List IRec) (i : Nat) (h : i < l.length) : rd_T45 l (i : Int) = l[i] := by
 unfold rd_T45
 rw [Int.toNat_natCast, List.getD_eq_getElem?_getD, List.getElem?_eq_getElem h, Option.getD_some]
def Small (x : ByteArray) : Prop := x.size ≤ 1048576
theorem szRS_loop (l : List LRec) (hl : l.length < 1099511627776) (hs : ∀ y ∈ l, y.f0.size ≤ maxLen ∧ y.f3.size ≤ maxLen) : ∀ (m i : Nat) (left : Int), i + m = l.length → 0 ≤ left → left ≤ 1048576 →
 ∃ t, Ev (fun k => laws_szRecordS.l0 k l left (i : Int)) t ∧ (0 ≤ t → t ≤ left ∧ ∀ (j : Nat) (h : j < l.length), i ≤ j → l[j].f0.size ≤ 1048576 ∧ l[j].f3.size ≤ 1048576)
 | 0, i, left, hi, h0, h1 => by
  refine ⟨left, Ev.step (f := fun _ => some left) (fun k => ?_) (Ev.now _), fun _ => ⟨Int.le_refl _, fun j h hij => absurd h (by omega)⟩⟩
  show laws_szRecordS.l0 (k + 1) l left (i : Int) = _
  rw [laws_szRecordS.l0, if_neg (by omega)]
 | m + 1, i, left, hi, h0, h1 => by
  have hlt : i < l.length := by omega
  have hx := hs _ (List.getElem_mem hlt)
  obtain ⟨t, e, ht⟩ := szRecAt left h0 h1 l[i].f0 l[i].f1 l[i].f2 l[i].f3 hx.1 hx.2
  have hw : wrap64 ((i : Int) + 1) = ((i + 1 : Nat) : Int) := w64n (by omega)
  by_cases hn : t < 0
  · refine ⟨-1, Ev.step (f := fun _ => some (-1)) (fun k => ?_) (Ev.now _), fun h => absurd h (by omega)⟩
    show laws_szRecordS.l0 (k + 1) l left (i : Int) = _
    rw [laws_szRecordS.l0, if_pos (by omega), if_pos (by omega), rdL l i hlt, e, Option.bind_some, if_pos hn]
  · obtain ⟨g1, g2, g3⟩ := ht (by omega)
    obtain ⟨t', e', ht'⟩ := szRS_loop l hl hs m (i + 1) t (by omega) (by omega) (by omega)
    refine ⟨t', Ev.step (f := fun k => laws_szRecordS.l0 k l t ((i + 1 : Nat) : Int)) (fun k => ?_) e', fun h => ?_⟩
    · show laws_szRecordS.l0 (k + 1) l left (i : Int) = _
      rw [laws_szRecordS.l0, if_pos (by omega), if_pos (by omega), rdL l i hlt, e, Option.bind_some, if_neg hn, hw]
    · obtain ⟨q1, q2⟩ := ht' h
      refine ⟨by omega, fun j hj hij => ?_⟩
      by_cases c : j = i
      · subst c; exact ⟨g2, g3⟩
      · exact q2 j hj (by omega)
theorem szRS_ev (l : List LRec) (left : Int) (h0 : 0 ≤ left) (h1 : left ≤ 1048576) (hm : l.length ≤ maxLen) (hs : ∀ y ∈ l, y.f0.size ≤ maxLen ∧ y.f3.size ≤ maxLen) :
 ∃ t, Ev (fun k => laws_szRecordS.f k l left) t ∧ (0 ≤ t → t ≤ left ∧ l.length ≤ 1048576 ∧ ∀ y ∈ l, Small y.f0 ∧ Small y.f3) := by
 simp only [maxLen] at hm
 have hw : wrap64 (left - (l.length : Int)) = left - (l.length : Int) := by unfold wrap64; omega
 by_cases hn : left - (l.length : Int) < 0
 · refine ⟨-1, Ev.congr (f := fun _ => some (-1)) (fun k => ?_) (Ev.now _), fun h => absurd h (by omega)⟩
   unfold laws_szRecordS.f
   rw [hw, if_pos hn]
 · obtain ⟨t, e, ht⟩ := szRS_loop l (by omega) hs l.length 0 (left - (l.length : Int)) (by omega) (by omega) (by omega)
   refine ⟨t, Ev.congr (fun k => ?_) e, fun h => ?_⟩
   · unfold laws_szRecordS.f
     rw [hw, if_neg hn]
     rfl
   · obtain ⟨q1, q2⟩ := ht h
     refine ⟨by omega, by omega, fun y hy => ?_⟩
     obtain ⟨j, hj, rfl⟩ := List.mem_iff_getElem.1 hy
     exact q2 j hj (Nat.zero_le _)
theorem toRS_loop (l : List LRec) (hl : l.length < 1099511627776) : ∀ (m i : Nat) (out : List IRec), i + m = l.length → out = (l.take i).map conv ++ List.replicate m z45 → Ev (fun k => laws_toRecordS.l0 k l out (i : Int)) (l.map conv)
 | 0, i, out, hi, ho => by
  refine Ev.step (f := fun _ => some (l.map conv)) (fun k => ?_) (Ev.now _)
  show laws_toRecordS.l0 (k + 1) l out (i : Int) = _
  rw [laws_toRecordS.l0, if_neg (by omega), ho, List.take_of_length_le (by omega)]
  simp
 | m + 1, i, out, hi, ho => by
  have hlt : i < l.length := by omega
  have hw : wrap64 ((i : Int) + 1) = ((i + 1 : Nat) : Int) := w64n (by omega)
  have hlen : ((l.take i).map conv).length = i := by rw [List.length_map, List.length_take]; omega
  have ih := toRS_loop l hl m (i + 1) (out.set i (conv l[i])) (by omega) (by
   rw [ho, List.set_append_right _ _ (by omega), hlen, Nat.sub_self, List.take_succ_eq_append_getElem hlt, List.map_append, List.append_assoc]
   rfl)
  refine Ev.step (f := fun k => laws_toRecordS.l0 k l (out.set i (conv l[i])) ((i + 1 : Nat) : Int)) (fun k => ?_) ih
  show laws_toRecordS.l0 (k + 1) l out (i : Int) = _
  have ho2 : out.length = l.length := by rw [ho, List.length_append, hlen, List.length_replicate]; omega
  rw [laws_toRecordS.l0, if_pos (by omega), if_pos (by omega), rdL l i hlt]
  unfold laws_toRecord.f
  rw [Option.bind_some, if_pos (by omega), hw, Int.toNat_natCast]
  rfl
theorem toRS_ev (l : List LRec) (hl : l.length ≤ 1048576) : Ev (fun k => laws_toRecordS.f k l) (l.map conv) := by
 refine Ev.congr (fun k => ?_) (toRS_loop l (by omega) l.length 0 (List.replicate l.length z45) (by omega) (by simp))
 unfold laws_toRecordS.f
 rw [if_pos (by omega), Int.toNat_natCast, if_pos (by omega)]
 rfl
theorem eqRec_self (x : IRec) : laws_eqRecord.f x.f0 x.f1 x.f2 x.f3 x.f0 x.f1 x.f2 x.f3 = some true := by
 unfold laws_eqRecord.f
 simp
theorem eqRS_loop (l : List IRec) (hl : l.length < 1099511627776) : ∀ (m i : Nat), i + m = l.length → Ev (fun k => laws_eqRecordS.l0 k l l (i : Int)) true
 | 0, i, hi => by
  refine Ev.step (f := fun _ => some true) (fun k => ?_) (Ev.now _)
  show laws_eqRecordS.l0 (k + 1) l l (i : Int) = _
  rw [laws_eqRecordS.l0, if_neg (by omega)]
 | m + 1, i, hi => by
  have hlt : i < l.length := by omega
  have hw : wrap64 ((i : Int) + 1) = ((i + 1 : Nat) : Int) := w64n (by omega)
  refine Ev.step (f := fun k => laws_eqRecordS.l0 k l l ((i + 1 : Nat) : Int)) (fun k => ?_) (eqRS_loop l hl m (i + 1) (by omega))
  show laws_eqRecordS.l0 (k + 1) l l (i : Int) = _
  rw [laws_eqRecordS.l0, if_pos (by omega), if_pos (by omega), if_pos (by omega), eqRec_self, Option.bind_some, if_pos rfl, hw]
theorem eqRS_ev (l : List IRec) (hl : l.length ≤ 1048576) : Ev (fun k => laws_eqRecordS.f k l l) true := by
 refine Ev.congr (fun k => ?_) (eqRS_loop l (by omega) l.length 0 (by omega))
 unfold laws_eqRecordS.f
 rw [if_pos rfl]
 rfl
def cmpI (a b : Int) : Int := if a < b then -1 else (if b < a then 1 else 0)
theorem cmpI_eq (a b : Int) : cmp_Compare_int.f a b = some (cmpI a b) := by
 unfold cmp_Compare_int.f cmp_isNaN_int.f cmpI
 simp only [bne_self_eq_false, Option.bind_some, Bool.false_eq_true, if_false]
 by_cases h : a < b
 · rw [if_pos h, if_pos h]
 · rw [if_neg h, if_neg h]
   by_cases h2 : b < a
   · rw [if_pos h2, if_pos h2]
   · rw [if_neg h2, if_neg h2]
def or2 (a b : Int) : Int := if a = 0 then b else a
theorem or_two (a b : Int) : Ev (fun k => cmp_Or_int.f k [a, b]) (or2 a b) := by
 refine Ev.of (fun k => cmp_Or_int.mono _ _) (k := 3) ?_
 show cmp_Or_int.f 3 [a, b] = _
 unfold or2
 by_cases h : a = 0
 · by_cases h2 : b = 0
   · simp [cmp_Or_int.f, cmp_Or_int.l0, rd, wrap64, h, h2]
   · simp [cmp_Or_int.f, cmp_Or_int.l0, rd, wrap64, h, h2]
 · simp [cmp_Or_int.f, cmp_Or_int.l0, rd, wrap64, h]
theorem or_three (a b c : Int) : Ev (fun k => cmp_Or_int.f k [a, b, c]) (or2 a (or2 b c)) := by
 refine Ev.of (fun k => cmp_Or_int.mono _ _) (k := 4) ?_
 show cmp_Or_int.f 4 [a, b, c] = _
 unfold or2
 by_cases h : a = 0
 · by_cases h2 : b = 0
   · by_cases h3 : c = 0
     · simp [cmp_Or_int.f, cmp_Or_int.l0, rd, wrap64, h, h2, h3]
     · simp [cmp_Or_int.f, cmp_Or_int.l0, rd, wrap64, h, h2, h3]
   · simp [cmp_Or_int.f, cmp_Or_int.l0, rd, wrap64, h, h2]
 · simp [cmp_Or_int.f, cmp_Or_int.l0, rd, wrap64, h]
theorem cmpB_eq : ∀ x y : List UInt8, Lib.compareBytes x y = if x = y then 0 else (if Op.bytesLess x y = true then -1 else 1)
 | [], [] => by simp [Lib.compareBytes]
 | [], _ :: _ => by simp [Lib.compareBytes, Op.bytesLess]
 | _ :: _, [] => by simp [Lib.compareBytes, Op.bytesLess]
 | a :: x, b :: y => by
  have ih := cmpB_eq x y
  unfold Lib.compareBytes Op.bytesLess
  by_cases h1 : a < b
  · have h3 : ¬ a = b := by rintro rfl; rw [UInt8.lt_iff_toNat_lt] at h1; omega
    simp [h1, h3]
  · by_cases h2 : b < a
    · have h3 : ¬ a = b := by rintro rfl; rw [UInt8.lt_iff_toNat_lt] at h2; omega
      simp [h1, h2, h3]
    · have h3 : a = b := by rw [UInt8.lt_iff_toNat_lt] at h1 h2; apply UInt8.toNat_inj.1; omega
      subst h3
      simp [h1, ih]
def ordR (a : List UInt8) (b c : Int) (x : List UInt8) (a' : List UInt8) (b' c' : Int) (x' : List UInt8) : Int := or2 (or2 (ordL a a') (cmpI b b')) (or2 (Lib.compareBytes x x') (cmpI c c'))
theorem good_bytes (b : Int) (d : ByteArray) (a : ByteArray) (c : Int) (ha : a.size ≤ 1048576) (hd : d.size ≤ 1048576) (h : Ev (fun k => impl_GoodRecord.f k a b c d) true) : ∃ x : ByteArray, Ev (fun k => spec_l3Bytes.f k b d) (x, true) ∧ Ev (fun k => impl_DataBytes.f k b d) (x, true) := by
 obtain ⟨r, q, r1, r2, q1, q2, hr, hs⟩ := goodrec_both a b c d ha hd
 have e := Ev.unique h r2
 subst e
 have hr := hr.symm
 rw [Bool.and_eq_true] at hr
 obtain ⟨x, y⟩ := q
 obtain rfl : y = true := hr.1
 exact ⟨x, q1, q2⟩
theorem implOrd_ev (a : ByteArray) (b c : Int) (d : ByteArray) (a' : ByteArray) (b' c' : Int) (d' x x' : ByteArray) (ha : a.size ≤ 1048576) (ha' : a'.size ≤ 1048576) (hx : Ev (fun k => impl_DataBytes.f k b d) (x, true)) (hx' : Ev (fun k => impl_DataBytes.f k b' d') (x', true)) :
 Ev (fun k => impl_compareRecords.f k a b c d a' b' c' d') (ordR a.data.toList b c x.data.toList a'.data.toList b' c' x'.data.toList) := by
 have hk : Ev (fun k => impl_compareKeys.f k a b c d a' b' c' d') (or2 (ordL a.data.toList a'.data.toList) (cmpI b b')) := by
  refine Ev.congr (fun k => rfl) (Ev.bind (implComp_ev a a' ha ha') ?_)
  simp only [cmpI_eq, Option.bind_some]
  exact Ev.bind (or_two _ _) (Ev.now _)
 have hd : ∀ {b : Int} {d x : ByteArray}, Ev (fun k => impl_DataBytes.f k b d) (x, true) → Ev (fun k => impl_dataBytes.f k b d) x := fun h => Ev.congr (fun k => rfl) (Ev.bind h (Ev.now _))
 refine Ev.congr (fun k => rfl) (Ev.bind hk (Ev.bind (hd hx) (Ev.bind (hd hx') ?_)))
 unfold strings_Compare.f
 simp only [cmpI_eq, Option.bind_some]
 exact Ev.bind (or_three _ _ _) (Ev.now _)
theorem less_eq (p : Bool) : spec_l3Less.f p = some (if p = true then -1 else 1) := by
 unfold spec_l3Less.f
 cases p <;> rfl
theorem cmpI_ne {a b : Int} (h : ¬ a = b) : cmpI a b = if decide (a < b) = true then -1 else 1 := by
 unfold cmpI
 by_cases h1 : a < b
 · rw [if_pos h1, if_pos (decide_eq_true h1)]
 · rw [if_neg h1, if_pos (by omega), if_neg (by simpa using h1)]
theorem cmpI_self (a : Int) : cmpI a a = 0 := by
 unfold cmpI
 rw [if_neg (by omega), if_neg (by omega)]
theorem specOrd_ev (a : ByteArray) (b c : Int) (d : ByteArray) (a' : ByteArray) (b' c' : Int) (d' x x' : ByteArray) (ha : a.size ≤ 1048576) (ha' : a'.size ≤ 1048576) (ga : goodL a.data.toList = true) (ga' : goodL a'.data.toList = true) (hx : Ev (fun k => spec_l3Bytes.f k b d) (x, true)) (hx' : Ev (fun k => spec_l3Bytes.f k b' d') (x', true)) :
 Ev (fun k => spec_l3Compare.f k a b c d a' b' c' d') (ordR a.data.toList b c x.data.toList a'.data.toList b' c' x'.data.toList) := by
 refine Ev.congr (fun k => rfl) (Ev.bind (specComp_ev a a' ha ha' ga ga') ?_)
 unfold ordR
 by_cases h0 : ordL a.data.toList a'.data.toList = 0
 · simp only [if_pos h0]
   refine Ev.bind hx (Ev.bind hx' ?_)
   simp only [less_eq, Option.bind_some]
   rw [h0]
   by_cases h1 : b = b'
   · subst h1
     simp only [if_true]
     rw [cmpI_self, cmpB_eq, Lib.toList_data, Lib.toList_data]
     by_cases h2 : x.data.toList = x'.data.toList
     · simp only [if_pos h2]
       by_cases h3 : c = c'
       · subst h3
         simp only [if_true]
         rw [cmpI_self]
         exact Ev.now _
       · simp only [if_neg h3]
         rw [cmpI_ne h3]
         exact Ev.now _
     · simp only [if_neg h2]
       by_cases h4 : Op.bytesLess x.data.toList x'.data.toList = true
       · simp only [if_pos h4]; exact Ev.now _
       · simp only [if_neg h4]; exact Ev.now _
   · simp only [if_neg h1]
     rw [cmpI_ne h1]
     by_cases h4 : decide (b < b') = true
     · simp only [if_pos h4]; exact Ev.now _
     · simp only [if_neg h4]; exact Ev.now _
 · simp only [if_neg h0]
   have e : ∀ y z : Int, or2 (or2 (ordL a.data.toList a'.data.toList) y) z = ordL a.data.toList a'.data.toList := fun y z => by
    unfold or2; rw [if_neg h0, if_neg h0]
   rw [e]
   exact Ev.now _
end Go.Proofs.YtiegkjimpclmaaaGreatDoor.Pure
namespace Go.Proofs.YtiegkjimpclmaaaGreatDoor.Pure
open Go.RowKit Go.Proofs.YtiegkjimpclmaaaGreatDoor.P Go.Proofs.YtiegkjimpclmaaaGreatDoorW.PrintWords Go.Proofs.YtiegkjimpclmaaaGreatDoorW.PrintLast
set_option linter.unusedVariables false
set_option linter.unusedSimpArgs false
set_option linter.unusedSectionVars false
inductive Reads (t : ByteArray) : Nat → Nat → List ByteArray → List Int → Nat → Prop
 | fin (a le : Nat) (h : a < t.size) (h0 : byteAt t a = 0) : Reads t a le [] [] (a + 1)
 | ptr (a le : Nat) (ls : List ByteArray) (pl : List Int) (en : Nat) (h : a + 1 < t.size) (h0 : 192 ≤ byteAt t a) (hp : ptrOf t a < le) (hr : Reads t (ptrOf t a) (ptrOf t a) ls pl en) : Reads t a le ls [] (a + 2)
 | lab (a le : Nat) (ls : List ByteArray) (pl : List Int) (en : Nat) (h0 : 0 < byteAt t a) (h1 : byteAt t a < 64) (h2 : a + 1 + byteAt t a ≤ t.size) (hr : Reads t (a + 1 + byteAt t a) le ls pl en) :
  Reads t a le (mkB ((rawL t a).map lowB) :: ls) ((a : Int) :: pl) en
theorem Reads.more {t : ByteArray} {a le : Nat} {ls : List ByteArray} {pl : List Int} {en : Nat} (h : Reads t a le ls pl en) : ∀ le', le ≤ le' → Reads t a le' ls pl en := by
 induction h with
 | fin a le h h0 => exact fun le' _ => .fin a le' h h0
 | ptr a le ls pl en h h0 hp hr ih => exact fun le' hl => .ptr a le' ls pl en h h0 (by omega) hr
 | lab a le ls pl en h0 h1 h2 hr ih => exact fun le' hl => .lab a le' ls pl en h0 h1 h2 (ih le' hl)
theorem Reads.bound {t : ByteArray} {a le : Nat} {ls : List ByteArray} {pl : List Int} {en : Nat} (h : Reads t a le ls pl en) : a < en ∧ en ≤ t.size ∧ (∀ x ∈ pl, (a : Int) ≤ x ∧ x < (en : Int)) ∧ pl.length ≤ ls.length ∧ pl.Pairwise (· < ·) := by
 induction h with
 | fin a le h h0 => exact ⟨by omega, by omega, (fun x hx => by cases hx), Nat.le_refl _, .nil⟩
 | ptr a le ls pl en h h0 hp hr ih => exact ⟨by omega, by omega, (fun x hx => by cases hx), Nat.zero_le _, .nil⟩
 | lab a le ls pl en h0 h1 h2 hr ih =>
  obtain ⟨i1, i2, i3, i4, i5⟩ := ih
  refine ⟨by omega, i2, fun x hx => ?_, by simpa using i4, List.pairwise_cons.2 ⟨fun x hx => by have := i3 x hx; omega, i5⟩⟩
  rcases List.mem_cons.1 hx with rfl | hx
  · omega
  · have := i3 x hx; omega
theorem Reads.place {t : ByteArray} {a le : Nat} {ls : List ByteArray} {pl : List Int} {en : Nat} (h : Reads t a le ls pl en) : ∀ x ∈ pl, ∃ ls1 ls2 pl', ls = ls1 ++ ls2 ∧ Reads t x.toNat le ls2 pl' en := by
 induction h with
 | fin a le h h0 => exact fun x hx => by cases hx
 | ptr a le ls pl en h h0 hp hr ih => exact fun x hx => by cases hx
 | lab a le ls pl en h0 h1 h2 hr ih =>
  intro x hx
  rcases List.mem_cons.1 hx with rfl | hx
  · exact ⟨[], _, _, rfl, .lab a le ls pl en h0 h1 h2 hr⟩
  · obtain ⟨l1, l2, p', e, h'⟩ := ih x hx
    exact ⟨mkB ((rawL t a).map lowB) :: l1, l2, p', by rw [e]; rfl, h'⟩
section
variable (s : ByteArray) (hs : s.size ≤ 600)
include hs
theorem reads_take {a le : Nat} {ls : List ByteArray} {pl : List Int} {en : Nat} (h : Reads s a le ls pl en) : ∀ (L : List ByteArray) (p : List Int) (e : Int), L.length + ls.length ≤ 8 → p.length ≤ L.length →
 Ev (fun k => impl_takeName.l0 k s (a : Int) L p (le : Int) e) ((nameR (L ++ ls)).1, (if e < 0 then p ++ pl else p), (if e < 0 then (en : Int) else e), (nameR (L ++ ls)).2) := by
 induction h with
 | fin a le h h0 =>
  intro L p e hL hp
  have hi := impl_end s hs 0 a L p le e h (by simp at hL; omega) h0
  rw [List.append_nil, List.append_nil, ite_self]
  exact Ev.of (fun k => (impl_takeName.mono_l k).1 _ _ _ _ _ _) hi
 | ptr a le ls pl en h h0 hp' hr ih =>
  intro L p e hL hp
  have := ih L p (endOf e (a + 2)) hL hp
  have he : ¬ endOf e (a + 2) < 0 := by unfold endOf; split <;> omega
  rw [if_neg he, if_neg he] at this
  rw [List.append_nil, ite_self]
  have e2 : endOf e (a + 2) = if e < 0 then ((a + 2 : Nat) : Int) else e := rfl
  rw [e2] at this
  exact Ev.step (fun k => rfl) (Ev.step (g := fun k => impl_takeName.l0 (k + 1) s (a : Int) L p (le : Int) e) (fun k => (impl_ptr s hs k a L p le e (by omega) (by omega) h0 h).trans (if_neg (by omega))) this)
 | lab a le ls pl en h0 h1 h2 hr ih =>
  intro L p e hL hp
  rw [List.length_cons] at hL
  have := ih (L ++ [mkB ((rawL s a).map lowB)]) (plc e p a) e (by simp; omega) (by unfold plc; split <;> simp <;> omega)
  have ep : (if e < 0 then plc e p a ++ pl else plc e p a) = if e < 0 then p ++ (a : Int) :: pl else p := by
   unfold plc
   split
   · simp
   · rfl
  rw [ep, List.append_assoc] at this
  exact Ev.step (fun k => rfl) (Ev.step (fun k => rfl) (Ev.step (g := fun k => impl_takeName.l0 (k + 2) s (a : Int) L p (le : Int) e) (fun k => impl_lab s hs k a L p le e (by omega) (by omega) (by omega) h0 h1 h2) this))
theorem take_reads : ∀ (n a : Nat) (L : List ByteArray) (p : List Int) (le : Nat) (e : Int), le * 10 + (9 - L.length) ≤ n → L.length ≤ 9 → p.length ≤ L.length →
 (∃ ls pl en, Reads s a le ls pl en ∧ L.length + ls.length ≤ 8) ∨ ∃ r, Ev (fun k => impl_takeName.l0 k s (a : Int) L p (le : Int) e) r ∧ r.1 = (⟨#[]⟩ : ByteArray) ∧ r.2.2.2 = false
 | n, a, L, p, le, e, hn, hL, hp => by
  by_cases ho : s.size ≤ a ∨ 8 < L.length
  · exact .inr ⟨failI, Ev.of (fun k => (impl_takeName.mono_l k).1 _ _ _ _ _ _) (impl_out s hs 0 a L p le e ho), rfl, rfl⟩
  · have h1 : a < s.size := by omega
    have h2 : L.length ≤ 8 := by omega
    by_cases v0 : byteAt s a = 0
    · exact .inl ⟨[], [], a + 1, .fin a le h1 v0, by simpa using h2⟩
    · by_cases v1 : 192 ≤ byteAt s a
      · by_cases h3 : a + 1 < s.size
        · by_cases hle : ((ptrOf s a : Nat) : Int) ≥ (le : Int)
          · exact .inr ⟨failI, Ev.of (fun k => (impl_takeName.mono_l k).1 _ _ _ _ _ _) ((impl_ptr s hs 0 a L p le e h1 h2 v1 h3).trans (if_pos hle)), rfl, rfl⟩
          · rcases take_reads (n - 10) (ptrOf s a) L p (ptrOf s a) (endOf e (a + 2)) (by omega) hL hp with ⟨ls, pl, en, g1, g2⟩ | ⟨r, g1, g2⟩
            · exact .inl ⟨ls, [], a + 2, .ptr a le ls pl en h3 v1 (by omega) g1, g2⟩
            · exact .inr ⟨r, Ev.step (fun k => rfl) (Ev.step (g := fun k => impl_takeName.l0 (k + 1) s (a : Int) L p (le : Int) e) (fun k => (impl_ptr s hs k a L p le e h1 h2 v1 h3).trans (if_neg hle)) g1), g2⟩
        · exact .inr ⟨failI, Ev.of (fun k => (impl_takeName.mono_l k).1 _ _ _ _ _ _) (impl_ptr_out s hs 0 a L p le e h1 h2 v1 (by omega)), rfl, rfl⟩
      · by_cases h3 : 64 ≤ byteAt s a ∨ s.size < a + 1 + byteAt s a
        · exact .inr ⟨failI, Ev.of (fun k => (impl_takeName.mono_l k).1 _ _ _ _ _ _) (impl_lab_out s hs 0 a L p le e h1 h2 (by omega) (by omega) h3), rfl, rfl⟩
        · rcases take_reads (n - 1) (a + 1 + byteAt s a) (L ++ [mkB ((rawL s a).map lowB)]) (plc e p a) le e (by simp; omega) (by simp; omega) (by unfold plc; split <;> simp <;> omega) with ⟨ls, pl, en, g1, g2⟩ | ⟨r, g1, g2⟩
          · exact .inl ⟨_, _, _, .lab a le ls pl en (by omega) (by omega) (by omega) g1, by simp at g2 ⊢; omega⟩
          · exact .inr ⟨r, Ev.step (fun k => rfl) (Ev.step (fun k => rfl) (Ev.step (g := fun k => impl_takeName.l0 (k + 2) s (a : Int) L p (le : Int) e) (fun k => impl_lab s hs k a L p le e h1 h2 (by omega) (by omega) (by omega) (by omega)) g1)), g2⟩
 termination_by n => n
 decreasing_by all_goals omega
theorem taken {k a : Nat} {t : ByteArray × List Int × Int × Bool} (h : impl_takeName.f k s (a : Int) = some t) (ht : t.2.2.2 = true) : ∃ ls pl en, Reads s a a ls pl en ∧ ls.length ≤ 8 ∧ nameR ls = (t.1, true) ∧ t.2.1 = pl ∧ t.2.2.1 = (en : Int) := by
 have hE : Ev (fun k => impl_takeName.l0 k s (a : Int) [] [] (a : Int) (-1)) t := Ev.of (fun k => (impl_takeName.mono_l k).1 _ _ _ _ _ _) (k := k) h
 rcases take_reads s hs (a * 10 + 9) a [] [] a (-1) (by simp) (by simp) (by simp) with ⟨ls, pl, en, g1, g2⟩ | ⟨r, g1, g2⟩
 · have g3 := reads_take s hs g1 [] [] (-1) g2 (by simp)
   have e := Ev.unique hE g3
   rw [if_pos (by decide), if_pos (by decide), List.nil_append, List.nil_append] at e
   refine ⟨ls, pl, en, g1, by simpa using g2, ?_, by rw [e], by rw [e]⟩
   rw [e] at ht ⊢
   exact Prod.ext rfl ht
 · rw [Ev.unique hE g1] at ht
   rw [ht] at g2
   cases g2.2
end
theorem label_low {x : List UInt8} (h : isLabelL x = true) : x.map lowB = x := by
 have : ∀ y ∈ x, lowB y = y := by
  intro y hy
  unfold isLabelL at h
  simp only [Bool.or_eq_true, Bool.and_eq_true, beq_iff_eq, List.all_eq_true] at h
  rcases h with h | h
  · rw [h] at hy
    rw [List.mem_singleton.1 hy]
    decide
  · have hy := h.2 y hy
    unfold labelByte at hy
    simp only [Bool.or_eq_true, decide_eq_true_eq, beq_iff_eq] at hy
    unfold lowB
    rw [if_neg]
    rintro ⟨h1, h2⟩
    rcases hy with ((hy | hy) | rfl) | rfl
    · omega
    · omega
    · revert h1; decide
    · revert h2; decide
 rw [List.map_congr_left this, List.map_id']
theorem label_pos {x : List UInt8} (h : isLabelL x = true) : 1 ≤ x.length := by
 unfold isLabelL at h
 simp only [Bool.or_eq_true, Bool.and_eq_true, beq_iff_eq, decide_eq_true_eq] at h
 rcases h with h | h
 · rw [h]; simp
 · exact h.1.1
end Go.Proofs.YtiegkjimpclmaaaGreatDoor.Pure
namespace Go.Proofs.YtiegkjimpclmaaaGreatDoor.P
open Go.RowKit Go.Proofs.YtiegkjimpclmaaaGreatDoorW.PrintWords Go.Proofs.YtiegkjimpclmaaaGreatDoorW.PrintLast Go.Proofs.YtiegkjimpclmaaaGreatDoorW.PrintMore
attribute [local go_sem] max2_int min2_int max_two min_two max_three min_three max_four min_four
set_option linter.unusedVariables false
set_option linter.unusedSimpArgs false
def laws_FnExactReadData.f (k : Nat) (a0 : Int) (a1 : ByteArray) : Option (Bool) := if (a1.size : Int) > 1048576 then (some true) else ((spec_ReadData.f k a0 a1).bind fun bt282 => ((impl_ReadData.f k a0 a1).bind fun bt284 => (if bt284.1.toList = bt282.1.toList then (if (bt284.2 != bt282.2) = true then (some false) else (some true)) else (some false))))
def laws_FnExactReadData.Pure : Prop := ∀ (a0 : Int) (a1 : ByteArray), (Lit.int .i64 a0).wf = true → a1.size ≤ 140737488351232 → ∃ k, laws_FnExactReadData.f k a0 a1 = some true
end Go.Proofs.YtiegkjimpclmaaaGreatDoor.P
