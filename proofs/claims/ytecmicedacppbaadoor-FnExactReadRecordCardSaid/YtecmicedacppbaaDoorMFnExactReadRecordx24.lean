/- FnExactReadRecord: part 25 of 25 of my texts for this claim, joined; the theorem stands in the last. Conditions: none beyond the statement's. -/
import Derived.Test.YtecmicedacppbaaDoorMFnExactReadRecordx23
import Derived.Test.YtecmicedacppbaaDoorMFnExactReadRecordx9
import Derived.Test.YtecmicedacppbaaDoorMFnExactReadRecordx16
import Derived.Lib.ItoaLen
import Derived.Test.YtecmicedacppbaaDoorMFnExactReadRecordx19
import Derived.Test.YtecmicedacppbaaDoorCards
import Derived.Test.YtecmicedacppbaaDoorTie
import Derived.Deep.DeepHandedRow
import Derived.Stop.LaidErr
import Derived.Lib.LaidTab
import Derived.Lib.ItoaNum
import Derived.WalkKit
import Derived.ProofKit
import Derived.OpenShut
import Derived.ShutString
import Derived.ChangeOld
import Derived.Below
import Derived.SizedLaws
-- PureText
/- A record's text: the reference and the program write the same. Conditions: the texts' sizes. -/
namespace Go.Proofs.YtecmicedacppbaaDoor.Pure
open Go.RowKit Go.Proofs.YtecmicedacppbaaDoor.P Go.Proofs.YtecmicedacppbaaDoorW.PrintWords Go.Proofs.YtecmicedacppbaaDoorW.PrintLast Go.Proofs.YtecmicedacppbaaDoorW.PrintMore
set_option linter.unusedVariables false
set_option linter.unusedSimpArgs false
theorem num_one (n : Int) (h0 : 0 ≤ n) (h9 : n < 10) : strOfNums [(wrap64 (48 + n)) % 256] = mkB [UInt8.ofNat (48 + n.toNat)] := by
  have e : wrap64 (48 + n) % 256 = ((48 + n.toNat : Nat) : Int) := by unfold wrap64; omega
  rw [e]
  show strOfNums [((48 + n.toNat : Nat) : Int)] = mkB [UInt8.ofNat (((48 + n.toNat : Nat) : Int).toNat)]
  rfl
theorem mkB_app (p q : List UInt8) : mkB p ++ mkB q = mkB (p ++ q) := by
  apply ByteArray.ext
  simp [mkB, ByteArray.append]
theorem digits_len (u : Nat) (h : u < 9223372036854775807) : (Lib.decDigits u).length ≤ 21 := by
  have := Lib.itoa_length_le (u : Int) (by omega) (by omega)
  rwa [Lib.itoa_nonneg] at this
theorem num_ev : ∀ (n u : Nat), u ≤ n → u < 9223372036854775807 → Ev (fun k => spec_l1Num.f k (u : Int)) (mkB (Lib.decDigits u))
  | n, u, hn, hu => by
    by_cases h10 : u < 10
    · refine Ev.step (f := fun _ => some (mkB (Lib.decDigits u))) (fun k => ?_) (Ev.now _)
      show spec_l1Num.f (k + 1) (u : Int) = _
      unfold spec_l1Num.f
      rw [if_pos (by omega), num_one _ (by omega) (by omega), Lib.decDigits_one h10, Int.toNat_natCast]
    · cases n with
      | zero => omega
      | succ n =>
        have ih := num_ev n (u / 10) (by omega) (by omega)
        have hlen := digits_len (u / 10) (by omega)
        have e1 : wrap64 (Int.tdiv (u : Int) 10) = ((u / 10 : Nat) : Int) := by
          rw [Int.tdiv_eq_ediv_of_nonneg (by omega), show (u : Int) / 10 = ((u / 10 : Nat) : Int) by omega]
          unfold wrap64; omega
        have e2 : Int.tmod (u : Int) 10 = ((u % 10 : Nat) : Int) := by
          rw [Int.tmod_eq_emod_of_nonneg (by omega)]
          omega
        rw [← e1] at ih
        refine Ev.step (f := fun k => (spec_l1Num.f k (wrap64 (Int.tdiv u 10))).bind fun t285 => ((some (([(wrap64 (48 + (Int.tmod u 10))) % 256] : List Int) : List Int)).bind fun y286 => (if t285.size + (strOfNums y286).size ≤ 9223372036854775807 then (some (t285 ++ (strOfNums y286))) else (none)))) (fun k => ?_) (Ev.bind ih ?_)
        · show spec_l1Num.f (k + 1) (u : Int) = _
          rw [spec_l1Num.f, if_neg (by omega)]
        · simp only [Option.bind_some]
          rw [e2, num_one _ (by omega) (by omega), Int.toNat_natCast, mkB_size, mkB_size]
          simp only [if_pos (show (Lib.decDigits (u / 10)).length + [UInt8.ofNat (48 + u % 10)].length ≤ 9223372036854775807 by simp only [List.length_cons, List.length_nil]; omega)]
          rw [mkB_app, show Lib.decDigits (u / 10) ++ [UInt8.ofNat (48 + u % 10)] = Lib.decDigits u by rw [Lib.decDigits.eq_1 u, dif_neg h10]]
          exact Ev.now _
def toldB (a : ByteArray) : ByteArray := if a.toList = ([] : List UInt8) then (⟨#[46]⟩ : ByteArray) else a
def itB (n : Int) : ByteArray := mkB (Lib.decDigits n.toNat)
def rtext (a : ByteArray) (b c : Int) (d : ByteArray) : ByteArray := (((((toldB a ++ (⟨#[32]⟩ : ByteArray)) ++ itB c) ++ (⟨#[32]⟩ : ByteArray)) ++ itB b) ++ (⟨#[32]⟩ : ByteArray)) ++ d
theorem told_size (a : ByteArray) : (toldB a).size ≤ a.size + 1 := by
  unfold toldB
  split
  · show 1 ≤ a.size + 1; omega
  · omega
theorem itB_size (n : Int) (h0 : 0 ≤ n) (h1 : n < 9223372036854775807) : (itB n).size ≤ 21 := by
  unfold itB
  rw [mkB_size]
  exact digits_len _ (by omega)
theorem sp1 : (⟨#[32]⟩ : ByteArray).size = 1 := rfl
theorem rtext_impl (a : ByteArray) (b c : Int) (d : ByteArray) (ha : a.size ≤ 1048576) (hd : d.size ≤ 1048576) (hb : 0 ≤ b ∧ b < 9223372036854775807) (hc : 0 ≤ c ∧ c < 9223372036854775807) : impl_recordText.f a b c d = some (rtext a b c d) := by
  have hi : ∀ n : Int, 0 ≤ n ∧ n < 9223372036854775807 → strconv_Itoa.f n = some (itB n) := fun n hn => by
    unfold strconv_Itoa.f itB Lib.itoa
    rw [if_pos (by omega), if_neg (by omega)]
    rfl
  have t1 := told_size a
  have t2 := itB_size b hb.1 hb.2
  have t3 := itB_size c hc.1 hc.2
  unfold impl_recordText.f impl_told.f
  rw [show (if a.toList = ([] : List UInt8) then some (⟨#[46]⟩ : ByteArray) else some a) = some (toldB a) by unfold toldB; split <;> rfl, hi c hc, hi b hb]
  simp only [Option.bind_some, ByteArray.size_append, sp1]
  rw [if_pos (by omega), if_pos (by omega), if_pos (by omega), if_pos (by omega), if_pos (by omega), if_pos (by omega)]
  rfl
theorem rtext_spec (a : ByteArray) (b c : Int) (d : ByteArray) (ha : a.size ≤ 1048576) (hd : d.size ≤ 1048576) (hb : 0 ≤ b ∧ b < 9223372036854775807) (hc : 0 ≤ c ∧ c < 9223372036854775807) : Ev (fun k => spec_l3Text.f k a b c d) (rtext a b c d) := by
  have hi : ∀ n : Int, 0 ≤ n ∧ n < 9223372036854775807 → Ev (fun k => spec_l1Num.f k n) (itB n) := fun n hn => by
    have := num_ev n.toNat n.toNat (Nat.le_refl _) (by omega)
    rwa [show ((n.toNat : Nat) : Int) = n by omega] at this
  have t1 := told_size a
  have t2 := itB_size b hb.1 hb.2
  have t3 := itB_size c hc.1 hc.2
  have key : ∀ x : ByteArray, x.size ≤ 1048577 → Ev (fun k => if x.size + 1 ≤ 9223372036854775807 then ((spec_l1Num.f k c).bind fun t292 => (if (x ++ (⟨#[32]⟩ : ByteArray)).size + t292.size ≤ 9223372036854775807 then (if ((x ++ (⟨#[32]⟩ : ByteArray)) ++ t292).size + 1 ≤ 9223372036854775807 then ((spec_l1Num.f k b).bind fun t293 => (if (((x ++ (⟨#[32]⟩ : ByteArray)) ++ t292) ++ (⟨#[32]⟩ : ByteArray)).size + t293.size ≤ 9223372036854775807 then (if ((((x ++ (⟨#[32]⟩ : ByteArray)) ++ t292) ++ (⟨#[32]⟩ : ByteArray)) ++ t293).size + 1 ≤ 9223372036854775807 then (if (((((x ++ (⟨#[32]⟩ : ByteArray)) ++ t292) ++ (⟨#[32]⟩ : ByteArray)) ++ t293) ++ (⟨#[32]⟩ : ByteArray)).size + d.size ≤ 9223372036854775807 then (some ((((((x ++ (⟨#[32]⟩ : ByteArray)) ++ t292) ++ (⟨#[32]⟩ : ByteArray)) ++ t293) ++ (⟨#[32]⟩ : ByteArray)) ++ d)) else (none)) else (none)) else (none))) else (none)) else (none))) else (none)) ((((((x ++ (⟨#[32]⟩ : ByteArray)) ++ itB c) ++ (⟨#[32]⟩ : ByteArray)) ++ itB b) ++ (⟨#[32]⟩ : ByteArray)) ++ d) := by
    intro x hx
    simp only [if_pos (show x.size + 1 ≤ 9223372036854775807 by omega)]
    refine Ev.bind (hi c hc) ?_
    simp only [ByteArray.size_append, sp1, if_pos (show x.size + 1 + (itB c).size ≤ 9223372036854775807 by omega), if_pos (show x.size + 1 + (itB c).size + 1 ≤ 9223372036854775807 by omega)]
    refine Ev.bind (hi b hb) ?_
    simp only [if_pos (show x.size + 1 + (itB c).size + 1 + (itB b).size ≤ 9223372036854775807 by omega), if_pos (show x.size + 1 + (itB c).size + 1 + (itB b).size + 1 ≤ 9223372036854775807 by omega), if_pos (show x.size + 1 + (itB c).size + 1 + (itB b).size + 1 + d.size ≤ 9223372036854775807 by omega)]
    exact Ev.now _
  by_cases h : a.toList = ([] : List UInt8)
  · refine Ev.congr (fun k => ?_) (key (toldB a) (by omega))
    unfold spec_l3Text.f toldB
    rw [if_pos h, if_pos h]
    rfl
  · refine Ev.congr (fun k => ?_) (key (toldB a) (by omega))
    unfold spec_l3Text.f toldB
    rw [if_neg h, if_neg h]
theorem data_kind {k : Nat} {kind : Int} {s x : ByteArray} (h : impl_DataBytes.f k kind s = some (x, true)) : 1 ≤ kind ∧ kind ≤ 16 := by
  unfold impl_DataBytes.f at h
  by_cases c : 1 ≤ kind ∧ kind ≤ 16
  · exact c
  · rw [if_neg (by omega), if_neg (by omega), if_neg (by omega), if_neg (by omega), if_neg (by omega)] at h
    cases (Prod.mk.inj (Option.some.inj h)).2
/-- A good record: its parts. -/
theorem good_parts (a : ByteArray) (b c : Int) (d : ByteArray) (ha : a.size ≤ 1048576) (hd : d.size ≤ 1048576) (h : Ev (fun k => impl_GoodRecord.f k a b c d) true) : a.size ≤ 60 ∧ goodL a.data.toList = true ∧ (1 ≤ b ∧ b ≤ 16) ∧ (0 ≤ c ∧ c ≤ 100000) ∧ d.size ≤ 100 := by
  obtain ⟨r, q, r1, r2, q1, ⟨K, q2⟩, hr, hs⟩ := goodrec_both a b c d ha hd
  have e := Ev.unique h r2
  subst e
  have hr := hr.symm
  rw [Bool.and_eq_true, Bool.and_eq_true, decide_eq_true_eq] at hr
  have hK : impl_DataBytes.f K b d = some (if q.2 = true then (q.1, true) else badD) := q2 K (Nat.le_refl _)
  rw [if_pos hr.1] at hK
  have := good_size hr.2.1
  rw [← size_len] at this
  exact ⟨this, hr.2.1, data_kind hK, hr.2.2, hs hr.1⟩
theorem text_both (a : ByteArray) (b c : Int) (d : ByteArray) (ha : a.size ≤ 1048576) (hd : d.size ≤ 1048576) : ∃ g, Ev (fun k => spec_GoodRecord.f k a b c d) g ∧ Ev (fun k => impl_GoodRecord.f k a b c d) g ∧ (g = true → Ev (fun k => spec_l3Text.f k a b c d) (rtext a b c d) ∧ impl_recordText.f a b c d = some (rtext a b c d)) := by
  obtain ⟨r, q, r1, r2, _⟩ := goodrec_both a b c d ha hd
  refine ⟨r, r1, r2, fun hg => ?_⟩
  subst hg
  obtain ⟨_, _, hb, hc, _⟩ := good_parts a b c d ha hd r2
  exact ⟨rtext_spec a b c d ha hd (by omega) (by omega), rtext_impl a b c d ha hd (by omega) (by omega)⟩
end Go.Proofs.YtecmicedacppbaaDoor.Pure

-- PureFnExactReadRecord
/- 'laws.FnExactReadRecord' returns true: the reference and the program return the same. Conditions: the text's size. -/
namespace Go.Proofs.YtecmicedacppbaaDoor.Pure
open Go.RowKit Go.Proofs.YtecmicedacppbaaDoor.P Go.Proofs.YtecmicedacppbaaDoorW.PrintWords Go.Proofs.YtecmicedacppbaaDoorW.PrintLast Go.Proofs.YtecmicedacppbaaDoorW.PrintMore
set_option linter.unusedVariables false
set_option linter.unusedSimpArgs false
abbrev Rec5 := ByteArray × Int × Int × ByteArray × Bool
def badR : Rec5 := ((⟨#[]⟩ : ByteArray), 0, 0, (⟨#[]⟩ : ByteArray), false)
theorem split_none (s : ByteArray) (k : Nat) (h : ∀ x ∈ s.data.toList, x ≠ 32) : Lib.splitB ⟨#[32]⟩ 0 k s = [s] := by
  refine Lib.splitB_miss _ _ _ _ ?_
  rw [show Lib.indexB s ⟨#[32]⟩ = Lib.indexByte s.data.toList 32 from Lib.index_one _ _]
  rcases place_or 32 s.data.toList with ⟨h1, _⟩ | ⟨p, r, h1, _, _⟩
  · exact h1
  · exact absurd rfl (h 32 (by rw [h1]; simp))
theorem split_hit (s : ByteArray) (p r : List UInt8) (k : Nat) (h1 : s.data.toList = p ++ 32 :: r) (h2 : ∀ x ∈ p, x ≠ 32) : Lib.splitB ⟨#[32]⟩ 0 (k + 1) s = mkB p :: Lib.splitB ⟨#[32]⟩ 0 k (mkB r) := by
  have hix : Lib.indexByte s.data.toList 32 = (p.length : Int) := by
    rcases place_or 32 s.data.toList with ⟨_, g2⟩ | ⟨p', r', g1, g2, g3⟩
    · exact absurd rfl (g2 32 (by rw [h1]; simp))
    · have e : p' :: splitL 32 r' = p :: splitL 32 r := by rw [← splitL_hit 32 p' r' g2, ← g1, h1, splitL_hit 32 p r h2]
      rw [g3, (List.cons.inj e).1]
  have hl : p.length + (r.length + 1) = s.size := by rw [size_len, h1]; simp
  rw [Lib.splitB_hit _ _ _ _ p.length (by rw [show Lib.indexB s ⟨#[32]⟩ = Lib.indexByte s.data.toList 32 from Lib.index_one _ _]; exact hix), show (⟨#[32]⟩ : ByteArray).size = 1 from rfl, Nat.add_zero, ext_mkB, ext_end]
  have e1 : (s.data.toList.drop 0).take (p.length - 0) = p := by rw [h1]; simp
  have e2 : s.data.toList.drop (p.length + 1) = r := by
    rw [h1, show p ++ 32 :: r = (p ++ [32]) ++ r by simp, List.drop_append_of_le_length (by simp), List.drop_of_length_le (by simp), List.nil_append]
  rw [e1, e2]
theorem dig_no32 (u : Nat) : ∀ x ∈ Lib.decDigits u, x ≠ 32 := by
  intro x hx e
  subst e
  have := List.all_eq_true.1 (digits_all u u (Nat.le_refl _)).1 32 hx
  exact absurd this (by decide)
theorem dig_can {u : Nat} (h : u < 10000000000) : canL (Lib.decDigits u) = true := by
  obtain ⟨h1, h2, h3, h4⟩ := digits_all u u (Nat.le_refl _)
  have h5 : (Lib.decDigits u).length ≤ 10 := by
    rw [Lib.decDigits_length]
    refine Nat.le_of_not_lt fun hlt => ?_
    have := digits_many 9 u (by omega)
    omega
  unfold canL
  rw [h1, decide_eq_true (And.intro h3 h5), Bool.true_and, Bool.true_and, Bool.or_eq_true, decide_eq_true_eq, decide_eq_true_eq]
  by_cases hu : 1 ≤ u
  · exact .inr (h4 hu)
  · left
    obtain rfl : u = 0 := by omega
    rw [Lib.decDigits_one (by omega)]
    rfl
theorem dig_num {u : Nat} (h : u < 10000000000) : numS (Lib.decDigits u) = (u : Int) := by
  unfold numS
  rw [if_pos (dig_can h), (digits_all u u (Nat.le_refl _)).2.1]
theorem dig_atoi {u : Nat} (h : u ≤ 100000) : atoiV (Lib.decDigits u) = (u : Int) := by
  have hsz := digits_len u (by omega)
  have hv := (digits_all u u (Nat.le_refl _)).2.1
  obtain ⟨v, h1, h2⟩ := number_eq (mkB (Lib.decDigits u)) 100000 (by rw [mkB_size]; omega) (by omega) (by omega)
  rw [mkB_data] at h1 h2
  have hb : (canL (Lib.decDigits u) && decide ((valL (Lib.decDigits u) : Int) ≤ 100000)) = true := by
    rw [dig_can (by omega), Bool.true_and, hv, decide_eq_true_eq]; omega
  rw [hb] at h1
  have hvu := h2 hb
  rw [hv] at hvu
  unfold impl_numberIn.f at h1
  rw [if_pos (by rw [mkB_size]; omega), mkB_data] at h1
  unfold atoiV
  cases ha : Lib.atoiAll (Lib.decDigits u)
  · next x =>
    rw [ha] at h1
    rw [← hvu]
    exact (Prod.mk.inj (Option.some.inj h1)).1
  · rw [ha] at h1
    cases (Prod.mk.inj (Option.some.inj h1)).2
  · rw [ha] at h1
    cases (Prod.mk.inj (Option.some.inj h1)).2
theorem good_no32 {r : List UInt8} (h : goodL r = true) : ∀ x ∈ r, x ≠ 32 := by
  intro x hx e
  subst e
  have hg := good_all h
  have hne : r ≠ [] := by rintro rfl; cases hx
  obtain ⟨p, hp, hb⟩ := (split_mem r 32 (by decide)).1 hx
  have := hg.2 p (by unfold labelsL; rw [if_neg hne]; exact hp)
  unfold isLabelL at this
  rw [Bool.or_eq_true, beq_iff_eq, Bool.and_eq_true, List.all_eq_true] at this
  rcases this with e | e
  · rw [e] at hb; simp at hb
  · exact absurd (e.2 32 hb) (by decide)
theorem rtext_data (a : ByteArray) (b c : Int) (d : ByteArray) : (rtext a b c d).data.toList = (toldB a).data.toList ++ 32 :: (Lib.decDigits c.toNat ++ 32 :: (Lib.decDigits b.toNat ++ 32 :: d.data.toList)) := by
  unfold rtext itB
  simp [ByteArray.data_append, mkB]
theorem rtext_split (a : ByteArray) (b c : Int) (d : ByteArray) (h : goodL a.data.toList = true) : splitL 32 (rtext a b c d).data.toList = (toldB a).data.toList :: Lib.decDigits c.toNat :: Lib.decDigits b.toNat :: splitL 32 d.data.toList := by
  have ht : ∀ x ∈ (toldB a).data.toList, x ≠ 32 := by
    unfold toldB
    split
    · intro x hx
      simp at hx
      subst hx
      decide
    · exact good_no32 h
  rw [rtext_data, splitL_hit 32 _ _ ht, splitL_hit 32 _ _ (dig_no32 _), splitL_hit 32 _ _ (dig_no32 _)]
theorem rtext_size (a : ByteArray) (b c : Int) (d : ByteArray) (ha : a.size ≤ 60) (hb : 1 ≤ b ∧ b ≤ 16) (hc : 0 ≤ c ∧ c ≤ 100000) (hd : d.size ≤ 100) : (rtext a b c d).size ≤ 300 := by
  have t1 := told_size a
  have t2 := itB_size b (by omega) (by omega)
  have t3 := itB_size c (by omega) (by omega)
  unfold rtext
  simp only [ByteArray.size_append, sp1]
  omega
/-- Whether a record is good and has this text. -/
def readS (k : Nat) (s a : ByteArray) (b c : Int) (d : ByteArray) : Option Rec5 := (spec_GoodRecord.f k a b c d).bind fun g => (if g = true then ((spec_l3Text.f k a b c d).bind fun t => (if t.toList = s.toList then (some (a, b, c, d, true)) else (some badR))) else (some badR))
def readI (k : Nat) (s a : ByteArray) (b c : Int) (d : ByteArray) : Option Rec5 := (impl_GoodRecord.f k a b c d).bind fun g => (if g = true then ((impl_recordText.f a b c d).bind fun t => (if t.toList = s.toList then (some (a, b, c, d, true)) else (some badR))) else (some badR))
theorem read_both (s a : ByteArray) (b c : Int) (d : ByteArray) (ha : a.size ≤ 1048576) (hd : d.size ≤ 1048576) : ∃ o : Bool, Ev (fun k => readS k s a b c d) (if o = true then (a, b, c, d, true) else badR) ∧ Ev (fun k => readI k s a b c d) (if o = true then (a, b, c, d, true) else badR) ∧
    (o = true → s.size ≤ 300 ∧ (1 ≤ b ∧ b ≤ 16) ∧ (0 ≤ c ∧ c ≤ 100000) ∧ splitL 32 s.data.toList = (toldB a).data.toList :: Lib.decDigits c.toNat :: Lib.decDigits b.toNat :: splitL 32 d.data.toList) := by
  obtain ⟨g, g1, g2, g3⟩ := text_both a b c d ha hd
  cases g with
  | false => exact ⟨false, Ev.bind g1 (Ev.now _), Ev.bind g2 (Ev.now _), fun h => by cases h⟩
  | true =>
    obtain ⟨t1, t2⟩ := g3 rfl
    by_cases e : (rtext a b c d).toList = s.toList
    · obtain ⟨p1, p2, p3, p4, p5⟩ := good_parts a b c d ha hd g2
      refine ⟨true, Ev.bind g1 (Ev.bind t1 ?_), Ev.bind g2 ?_, fun _ => ?_⟩
      · simp only [if_pos e]; exact Ev.now _
      · simp only [t2, Option.bind_some, if_pos e]; exact Ev.now _
      · rw [Lib.toList_data, Lib.toList_data] at e
        have hz := rtext_size a b c d p1 p3 p4 p5
        rw [size_len, e, ← size_len] at hz
        refine ⟨hz, p3, p4, ?_⟩
        rw [← e]
        exact rtext_split a b c d p2
    · refine ⟨false, Ev.bind g1 (Ev.bind t1 ?_), Ev.bind g2 ?_, fun h => by cases h⟩
      · simp only [if_neg e]; exact Ev.now _
      · simp only [t2, Option.bind_some, if_neg e]; exact Ev.now _
/-- The name that a text's first word is. -/
def nmOf (p : List UInt8) : ByteArray := if (mkB p).toList = ([46] : List UInt8) then (⟨#[]⟩ : ByteArray) else mkB p
theorem nm_size (p : List UInt8) : (nmOf p).size ≤ p.length := by
  unfold nmOf
  split
  · exact Nat.zero_le _
  · rw [mkB_size]; exact Nat.le_refl _
/-- The spaces of a text: fewer than three, or three words and the rest. -/
theorem words_of (s : List UInt8) : ((splitL 32 s).length < 4 ∧ ∀ k, min 3 s.length = k → ((Lib.splitB ⟨#[32]⟩ 0 k (mkB s)).length : Int) ≠ 4) ∨ ∃ p0 p1 p2 d, s = p0 ++ 32 :: (p1 ++ 32 :: (p2 ++ 32 :: d)) ∧ splitL 32 s = p0 :: p1 :: p2 :: splitL 32 d ∧ Lib.splitB ⟨#[32]⟩ 0 (min 3 s.length) (mkB s) = [mkB p0, mkB p1, mkB p2, mkB d] := by
  rcases place_or 32 s with ⟨_, h⟩ | ⟨p0, r0, rfl, h0, _⟩
  · left
    rw [splitL_none 32 s h]
    refine ⟨by simp, fun k hk => ?_⟩
    rw [split_none (mkB s) k (by rw [mkB_data]; exact h)]
    simp
  · rcases place_or 32 r0 with ⟨_, h⟩ | ⟨p1, r1, rfl, h1, _⟩
    · left
      rw [splitL_hit 32 p0 r0 h0, splitL_none 32 r0 h]
      refine ⟨by simp, fun k hk => ?_⟩
      simp only [List.length_append, List.length_cons] at hk
      obtain ⟨k, rfl⟩ : ∃ j, k = j + 1 := ⟨k - 1, by omega⟩
      rw [split_hit _ p0 r0 k (mkB_data _) h0, split_none (mkB r0) k (by rw [mkB_data]; exact h)]
      simp
    · rcases place_or 32 r1 with ⟨_, h⟩ | ⟨p2, d, rfl, h2, _⟩
      · left
        rw [splitL_hit 32 p0 _ h0, splitL_hit 32 p1 r1 h1, splitL_none 32 r1 h]
        refine ⟨by simp, fun k hk => ?_⟩
        simp only [List.length_append, List.length_cons] at hk
        obtain ⟨k, rfl⟩ : ∃ j, k = j + 1 + 1 := ⟨k - 2, by omega⟩
        rw [split_hit _ p0 _ (k + 1) (mkB_data _) h0, split_hit _ p1 r1 k (mkB_data _) h1, split_none (mkB r1) k (by rw [mkB_data]; exact h)]
        simp
      · right
        refine ⟨p0, p1, p2, d, rfl, ?_, ?_⟩
        · rw [splitL_hit 32 p0 _ h0, splitL_hit 32 p1 _ h1, splitL_hit 32 p2 d h2]
        · have : min 3 (p0 ++ 32 :: (p1 ++ 32 :: (p2 ++ 32 :: d))).length = 0 + 1 + 1 + 1 := by
            simp only [List.length_append, List.length_cons]; omega
          rw [this, split_hit _ p0 _ _ (mkB_data _) h0, split_hit _ p1 _ _ (mkB_data _) h1, split_hit _ p2 d _ (mkB_data _) h2]
          rfl
theorem splitN_eq (s : ByteArray) (hs : s.size ≤ 1048576) : strings_SplitN.f s (⟨#[32]⟩ : ByteArray) 4 = some (Lib.splitB ⟨#[32]⟩ 0 (min 3 s.size) s) := by
  unfold strings_SplitN.f
  rw [if_pos (show (⟨#[32]⟩ : ByteArray).size = 1 from rfl), if_pos (by omega), if_pos (by omega)]
  rw [show min (4 : Int).toNat (s.size + 1) - 1 = min 3 s.size by show min 4 (s.size + 1) - 1 = _; omega]
theorem spec_bad (s : ByteArray) (hs : s.size ≤ 1048576) (h : (splitL 32 s.data.toList).length < 4) : Ev (fun k => spec_ReadRecord.f k s) badR := by
  refine Ev.congr (fun k => rfl) (Ev.bind (split32_ev s (by omega)) ?_)
  simp only [List.length_map, if_pos (show ((splitL 32 s.data.toList).length : Int) < 4 by omega)]
  exact Ev.now _
theorem impl_bad (s : ByteArray) (hs : s.size ≤ 1048576) (h : s.size > 300 ∨ ((Lib.splitB ⟨#[32]⟩ 0 (min 3 s.size) s).length : Int) ≠ 4) : Ev (fun k => impl_ReadRecord.f k s) badR := by
  refine Ev.congr (f := fun k => impl_ReadRecord.j0 k s (Lib.splitB ⟨#[32]⟩ 0 (min 3 s.size) s) true) (fun k => ?_) (Ev.step (f := fun _ => some badR) (fun k => rfl) (Ev.now _))
  unfold impl_ReadRecord.f
  rw [splitN_eq s hs, Option.bind_some]
  by_cases h3 : (s.size : Int) > 300
  · rw [if_pos h3]
  · rw [if_neg h3, bne_iff_ne.2 (h.resolve_left (by omega))]
theorem spec_goes (s : ByteArray) (hs : s.size ≤ 1048576) (p0 p1 p2 d : List UInt8) (h0 : s.data.toList = p0 ++ 32 :: (p1 ++ 32 :: (p2 ++ 32 :: d))) (h : splitL 32 s.data.toList = p0 :: p1 :: p2 :: splitL 32 d) {q : Rec5} (hq : Ev (fun k => readS k s (nmOf p0) (numS p2) (numS p1) (mkB d)) q) : Ev (fun k => spec_ReadRecord.f k s) q := by
  have hsp := split32_ev s (by omega)
  rw [h] at hsp
  have hl : p0.length + (p1.length + (p2.length + (d.length + 1) + 1) + 1) = s.size := by rw [size_len, h0]; simp
  have i1 := int_ev (mkB p1) (by rw [mkB_size]; omega)
  have i2 := int_ev (mkB p2) (by rw [mkB_size]; omega)
  rw [mkB_data] at i1 i2
  have ew : wrap64 ((wrap64 ((wrap64 (((mkB p0).size : Int) + ((mkB p1).size : Int))) + ((mkB p2).size : Int))) + 3) = ((p0.length + p1.length + p2.length + 3 : Nat) : Int) := by
    simp only [mkB_size]; unfold wrap64; omega
  refine Ev.congr (fun k => rfl) (Ev.bind hsp ?_)
  simp only [List.map_cons]
  have hn : ¬ (((mkB p0 :: mkB p1 :: mkB p2 :: (splitL 32 d).map mkB).length : Nat) : Int) < 4 := by
    have := List.length_pos_iff.2 (splitL_ne 32 d)
    simp only [List.length_cons, List.length_map]; omega
  have l0 : (0 : Int) < (((mkB p0 :: mkB p1 :: mkB p2 :: (splitL 32 d).map mkB).length : Nat) : Int) := by omega
  have l1 : (1 : Int) < (((mkB p0 :: mkB p1 :: mkB p2 :: (splitL 32 d).map mkB).length : Nat) : Int) := by omega
  have l2 : (2 : Int) < (((mkB p0 :: mkB p1 :: mkB p2 :: (splitL 32 d).map mkB).length : Nat) : Int) := by omega
  simp only [if_neg hn, if_pos l0, if_pos l1]
  refine Ev.bind (a := numS p1) i1 ?_
  simp only [if_pos l2]
  refine Ev.bind (a := numS p2) i2 ?_
  have ed : s.extract (p0.length + p1.length + p2.length + 3) s.size = mkB d := by
    rw [ext_end, h0]
    congr 1
    rw [show p0 ++ 32 :: (p1 ++ 32 :: (p2 ++ 32 :: d)) = (p0 ++ 32 :: (p1 ++ 32 :: (p2 ++ [32]))) ++ d by simp, List.drop_append_of_le_length (by simp; omega), List.drop_of_length_le (by simp; omega), List.nil_append]
  have key : Ev (fun k => spec_ReadRecord.j0 k s (nmOf p0) (numS p2) (numS p1) (mkB d)) q := Ev.step (f := fun k => readS k s (nmOf p0) (numS p2) (numS p1) (mkB d)) (fun k => rfl) hq
  have e0 : rdOf ByteArray.empty (mkB p0 :: mkB p1 :: mkB p2 :: (splitL 32 d).map mkB) 0 = mkB p0 := rfl
  have e1 : rdOf ByteArray.empty (mkB p0 :: mkB p1 :: mkB p2 :: (splitL 32 d).map mkB) 1 = mkB p1 := rfl
  have e2 : rdOf ByteArray.empty (mkB p0 :: mkB p1 :: mkB p2 :: (splitL 32 d).map mkB) 2 = mkB p2 := rfl
  simp only [e0, e1, e2, ew, Int.toNat_natCast, ed]
  simp only [if_pos (show (0 : Int) ≤ ((p0.length + p1.length + p2.length + 3 : Nat) : Int) by omega), if_pos (show ((p0.length + p1.length + p2.length + 3 : Nat) : Int) ≤ (s.size : Int) by omega)]
  unfold nmOf at key
  by_cases c : (mkB p0).toList = ([46] : List UInt8)
  · simp only [if_pos c] at key ⊢; exact key
  · simp only [if_neg c] at key ⊢; exact key
theorem impl_goes (s : ByteArray) (hs : s.size ≤ 300) (p0 p1 p2 d : List UInt8) (h0 : s.data.toList = p0 ++ 32 :: (p1 ++ 32 :: (p2 ++ 32 :: d))) (h : Lib.splitB ⟨#[32]⟩ 0 (min 3 s.size) s = [mkB p0, mkB p1, mkB p2, mkB d]) {q : Rec5} (hq : Ev (fun k => readI k s (nmOf p0) (atoiV p2) (atoiV p1) (mkB d)) q) : Ev (fun k => impl_ReadRecord.f k s) q := by
  have hl : p0.length + (p1.length + (p2.length + (d.length + 1) + 1) + 1) = s.size := by rw [size_len, h0]; simp
  have a1 : ∀ p : List UInt8, p.length ≤ 300 → strconv_Atoi.f (mkB p) = some (atoiV p, none) := fun p hp => by
    unfold strconv_Atoi.f
    rw [if_pos (by rw [mkB_size]; omega), mkB_data]
  have key : Ev (fun k => impl_ReadRecord.j1 k s [mkB p0, mkB p1, mkB p2, mkB d] (nmOf p0) 0 0 (mkB d)) q := by
    refine Ev.step (f := fun k => readI k s (nmOf p0) (atoiV p2) (atoiV p1) (mkB d)) (fun k => ?_) hq
    show (if 1 < ((4 : Nat) : Int) then ((strconv_Atoi.f (mkB p1)).bind fun bt341 => (if 2 < ((4 : Nat) : Int) then ((strconv_Atoi.f (mkB p2)).bind fun bt344 => _) else none)) else none) = _
    rw [if_pos (by omega), a1 p1 (by omega), Option.bind_some, if_pos (by omega), a1 p2 (by omega), Option.bind_some]
    rfl
  refine Ev.congr (f := fun k => impl_ReadRecord.j0 k s [mkB p0, mkB p1, mkB p2, mkB d] false) (fun k => ?_) (Ev.step (f := fun k => impl_ReadRecord.j1 k s [mkB p0, mkB p1, mkB p2, mkB d] (nmOf p0) 0 0 (mkB d)) (fun k => ?_) key)
  · unfold impl_ReadRecord.f
    rw [splitN_eq s (by omega), Option.bind_some, h, if_neg (by omega)]
    rfl
  · show (if (mkB p0).toList = ([46] : List UInt8) then impl_ReadRecord.j1 k s [mkB p0, mkB p1, mkB p2, mkB d] (⟨#[]⟩ : ByteArray) 0 0 (mkB d) else impl_ReadRecord.j1 k s [mkB p0, mkB p1, mkB p2, mkB d] (mkB p0) 0 0 (mkB d)) = _
    unfold nmOf
    split <;> rfl
theorem readrec_both (s : ByteArray) (hs : s.size ≤ 1048576) : ∃ q, Ev (fun k => spec_ReadRecord.f k s) q ∧ Ev (fun k => impl_ReadRecord.f k s) q := by
  have hw := words_of s.data.toList
  rw [mkB_self, ← size_len] at hw
  rcases hw with ⟨h1, h2⟩ | ⟨p0, p1, p2, d, h0, h1, h2⟩
  · exact ⟨badR, spec_bad s hs h1, impl_bad s hs (.inr (h2 _ rfl))⟩
  · have hl : p0.length + (p1.length + (p2.length + (d.length + 1) + 1) + 1) = s.size := by rw [size_len, h0]; simp
    have hn := nm_size p0
    obtain ⟨o, r1, r2, r3⟩ := read_both s (nmOf p0) (numS p2) (numS p1) (mkB d) (by omega) (by rw [mkB_size]; omega)
    cases o with
    | true =>
      obtain ⟨t1, t2, t3, t4⟩ := r3 rfl
      rw [h1] at t4
      obtain ⟨_, t4⟩ := List.cons.inj t4
      obtain ⟨e1, t4⟩ := List.cons.inj t4
      obtain ⟨e2, _⟩ := List.cons.inj t4
      have a1 : atoiV p1 = numS p1 := by
        rw [show atoiV p1 = atoiV (Lib.decDigits (numS p1).toNat) from congrArg _ e1, dig_atoi (by omega)]; omega
      have a2 : atoiV p2 = numS p2 := by
        rw [show atoiV p2 = atoiV (Lib.decDigits (numS p2).toNat) from congrArg _ e2, dig_atoi (by omega)]; omega
      refine ⟨_, spec_goes s hs p0 p1 p2 d h0 h1 r1, impl_goes s t1 p0 p1 p2 d h0 h2 ?_⟩
      rw [a1, a2]
      exact r2
    | false =>
      refine ⟨badR, spec_goes s hs p0 p1 p2 d h0 h1 r1, ?_⟩
      by_cases h3 : s.size ≤ 300
      · refine impl_goes s h3 p0 p1 p2 d h0 h2 ?_
        obtain ⟨o', q1, q2, q3⟩ := read_both s (nmOf p0) (atoiV p2) (atoiV p1) (mkB d) (by omega) (by rw [mkB_size]; omega)
        cases o' with
        | false => exact q2
        | true =>
          exfalso
          obtain ⟨t1, t2, t3, t4⟩ := q3 rfl
          rw [h1] at t4
          obtain ⟨_, t4⟩ := List.cons.inj t4
          obtain ⟨e1, t4⟩ := List.cons.inj t4
          obtain ⟨e2, _⟩ := List.cons.inj t4
          have a1 : numS p1 = atoiV p1 := by
            rw [show numS p1 = numS (Lib.decDigits (atoiV p1).toNat) from congrArg _ e1, dig_num (by omega)]; omega
          have a2 : numS p2 = atoiV p2 := by
            rw [show numS p2 = numS (Lib.decDigits (atoiV p2).toNat) from congrArg _ e2, dig_num (by omega)]; omega
          rw [a1, a2] at r1
          have := Ev.unique r1 q1
          simp [badR] at this
      · exact impl_bad s hs (.inl (by omega))
theorem FnExactReadRecord : laws_FnExactReadRecord.Pure := by
  intro s hs
  suffices h : Ev (fun k => laws_FnExactReadRecord.f k s) true from h.rounds
  unfold laws_FnExactReadRecord.f
  by_cases h : (s.size : Int) > 1048576
  · simp only [if_pos h]; exact Ev.now _
  · simp only [if_neg h]
    obtain ⟨q, q1, q2⟩ := readrec_both s (by omega)
    refine Ev.bind q1 (Ev.bind q2 ?_)
    unfold laws_eqRecord.f
    simp
    exact Ev.now _
end Go.Proofs.YtecmicedacppbaaDoor.Pure

-- LawFnExactReadRecord
-- By my own call of the kit's print (wip/tools/pp.py), turned to a card by wip/tools/doorrow.py.
namespace Go.Proofs.YtecmicedacppbaaDoor.fnExactReadRecord
open Go.ChangeShapes Go.WideShapes Go.ChangeAt Go.RowKit
open Go.ChangeMaps (open_string shut_string)
set_option linter.unusedVariables false
theorem own : ownKnob Tryd.prog.godebug = none := by kernel_rfl
/-- So many blocks has the settled world. -/
noncomputable def low : Nat := (World.holding Tryd.prog default ⟨#[], #[], []⟩).heap.size
/-- A world for the witness: the settled one, the listed tables holding what the row lists. -/
noncomputable def laidWorld (os : Os) : World :=
  { World.holding Tryd.prog os ⟨#[.cells #[.string { data := #[118, 97, 108, 117, 101, 32, 111, 117, 116, 32, 111, 102, 32, 114, 97, 110, 103, 101] }] 108, .cells #[.string { data := #[105, 110, 118, 97, 108, 105, 100, 32, 115, 121, 110, 116, 97, 120] }] 108], #[], []⟩ with heap := ((((((((World.holding Tryd.prog os ⟨#[.cells #[.string { data := #[118, 97, 108, 117, 101, 32, 111, 117, 116, 32, 111, 102, 32, 114, 97, 110, 103, 101] }] 108, .cells #[.string { data := #[105, 110, 118, 97, 108, 105, 100, 32, 115, 121, 110, 116, 97, 120] }] 108], #[], []⟩).heap.modify 6 fun
      | .cells _ t frozen => .cells #[.int .u8 0, .int .u8 1, .int .u8 28, .int .u8 2, .int .u8 29, .int .u8 14, .int .u8 24, .int .u8 3, .int .u8 30, .int .u8 22, .int .u8 20, .int .u8 15, .int .u8 25, .int .u8 17, .int .u8 4, .int .u8 8, .int .u8 31, .int .u8 27, .int .u8 13, .int .u8 23, .int .u8 21, .int .u8 19, .int .u8 16, .int .u8 7, .int .u8 26, .int .u8 12, .int .u8 18, .int .u8 6, .int .u8 11, .int .u8 5, .int .u8 10, .int .u8 9] t frozen
      | o => o).modify 7 fun
      | .cells _ t frozen => .cells #[.int .u8 0, .int .u8 1, .int .u8 56, .int .u8 2, .int .u8 57, .int .u8 49, .int .u8 28, .int .u8 3, .int .u8 61, .int .u8 58, .int .u8 42, .int .u8 50, .int .u8 38, .int .u8 29, .int .u8 17, .int .u8 4, .int .u8 62, .int .u8 47, .int .u8 59, .int .u8 36, .int .u8 45, .int .u8 43, .int .u8 51, .int .u8 22, .int .u8 53, .int .u8 39, .int .u8 33, .int .u8 30, .int .u8 24, .int .u8 18, .int .u8 12, .int .u8 5, .int .u8 63, .int .u8 55, .int .u8 48, .int .u8 27, .int .u8 60, .int .u8 41, .int .u8 37, .int .u8 16, .int .u8 46, .int .u8 35, .int .u8 44, .int .u8 21, .int .u8 52, .int .u8 32, .int .u8 23, .int .u8 11, .int .u8 54, .int .u8 26, .int .u8 40, .int .u8 15, .int .u8 34, .int .u8 20, .int .u8 31, .int .u8 10, .int .u8 25, .int .u8 14, .int .u8 19, .int .u8 9, .int .u8 13, .int .u8 8, .int .u8 7, .int .u8 6] t frozen
      | o => o).modify 5 fun
      | .cells _ t frozen => .cells #[.int .u64 1, .int .u64 10, .int .u64 100, .int .u64 1000, .int .u64 10000, .int .u64 100000, .int .u64 1000000, .int .u64 10000000, .int .u64 100000000, .int .u64 1000000000, .int .u64 10000000000, .int .u64 100000000000, .int .u64 1000000000000, .int .u64 10000000000000, .int .u64 100000000000000, .int .u64 1000000000000000, .int .u64 10000000000000000, .int .u64 100000000000000000, .int .u64 1000000000000000000, .int .u64 10000000000000000000] t frozen
      | o => o).modify 4 fun
      | .cells _ t frozen => .cells #[.int .u8 128, .int .u8 191, .int .u8 160, .int .u8 191, .int .u8 128, .int .u8 159, .int .u8 144, .int .u8 191, .int .u8 128, .int .u8 143, .int .u8 0, .int .u8 0, .int .u8 0, .int .u8 0, .int .u8 0, .int .u8 0, .int .u8 0, .int .u8 0, .int .u8 0, .int .u8 0, .int .u8 0, .int .u8 0, .int .u8 0, .int .u8 0, .int .u8 0, .int .u8 0, .int .u8 0, .int .u8 0, .int .u8 0, .int .u8 0, .int .u8 0, .int .u8 0] t frozen
      | o => o).modify 2 fun
      | .cells _ t frozen => .cells #[.iface 106 (.pointer (some ⟨low, 0, none⟩))] t frozen
      | o => o).modify 1 fun
      | .cells _ t frozen => .cells #[.iface 106 (.pointer (some ⟨low + 1, 0, none⟩))] t frozen
      | o => o).modify 3 fun
      | .cells _ t frozen => .cells #[.int .u8 240, .int .u8 240, .int .u8 240, .int .u8 240, .int .u8 240, .int .u8 240, .int .u8 240, .int .u8 240, .int .u8 240, .int .u8 240, .int .u8 240, .int .u8 240, .int .u8 240, .int .u8 240, .int .u8 240, .int .u8 240, .int .u8 240, .int .u8 240, .int .u8 240, .int .u8 240, .int .u8 240, .int .u8 240, .int .u8 240, .int .u8 240, .int .u8 240, .int .u8 240, .int .u8 240, .int .u8 240, .int .u8 240, .int .u8 240, .int .u8 240, .int .u8 240, .int .u8 240, .int .u8 240, .int .u8 240, .int .u8 240, .int .u8 240, .int .u8 240, .int .u8 240, .int .u8 240, .int .u8 240, .int .u8 240, .int .u8 240, .int .u8 240, .int .u8 240, .int .u8 240, .int .u8 240, .int .u8 240, .int .u8 240, .int .u8 240, .int .u8 240, .int .u8 240, .int .u8 240, .int .u8 240, .int .u8 240, .int .u8 240, .int .u8 240, .int .u8 240, .int .u8 240, .int .u8 240, .int .u8 240, .int .u8 240, .int .u8 240, .int .u8 240, .int .u8 240, .int .u8 240, .int .u8 240, .int .u8 240, .int .u8 240, .int .u8 240, .int .u8 240, .int .u8 240, .int .u8 240, .int .u8 240, .int .u8 240, .int .u8 240, .int .u8 240, .int .u8 240, .int .u8 240, .int .u8 240, .int .u8 240, .int .u8 240, .int .u8 240, .int .u8 240, .int .u8 240, .int .u8 240, .int .u8 240, .int .u8 240, .int .u8 240, .int .u8 240, .int .u8 240, .int .u8 240, .int .u8 240, .int .u8 240, .int .u8 240, .int .u8 240, .int .u8 240, .int .u8 240, .int .u8 240, .int .u8 240, .int .u8 240, .int .u8 240, .int .u8 240, .int .u8 240, .int .u8 240, .int .u8 240, .int .u8 240, .int .u8 240, .int .u8 240, .int .u8 240, .int .u8 240, .int .u8 240, .int .u8 240, .int .u8 240, .int .u8 240, .int .u8 240, .int .u8 240, .int .u8 240, .int .u8 240, .int .u8 240, .int .u8 240, .int .u8 240, .int .u8 240, .int .u8 240, .int .u8 240, .int .u8 240, .int .u8 240, .int .u8 240, .int .u8 241, .int .u8 241, .int .u8 241, .int .u8 241, .int .u8 241, .int .u8 241, .int .u8 241, .int .u8 241, .int .u8 241, .int .u8 241, .int .u8 241, .int .u8 241, .int .u8 241, .int .u8 241, .int .u8 241, .int .u8 241, .int .u8 241, .int .u8 241, .int .u8 241, .int .u8 241, .int .u8 241, .int .u8 241, .int .u8 241, .int .u8 241, .int .u8 241, .int .u8 241, .int .u8 241, .int .u8 241, .int .u8 241, .int .u8 241, .int .u8 241, .int .u8 241, .int .u8 241, .int .u8 241, .int .u8 241, .int .u8 241, .int .u8 241, .int .u8 241, .int .u8 241, .int .u8 241, .int .u8 241, .int .u8 241, .int .u8 241, .int .u8 241, .int .u8 241, .int .u8 241, .int .u8 241, .int .u8 241, .int .u8 241, .int .u8 241, .int .u8 241, .int .u8 241, .int .u8 241, .int .u8 241, .int .u8 241, .int .u8 241, .int .u8 241, .int .u8 241, .int .u8 241, .int .u8 241, .int .u8 241, .int .u8 241, .int .u8 241, .int .u8 241, .int .u8 241, .int .u8 241, .int .u8 2, .int .u8 2, .int .u8 2, .int .u8 2, .int .u8 2, .int .u8 2, .int .u8 2, .int .u8 2, .int .u8 2, .int .u8 2, .int .u8 2, .int .u8 2, .int .u8 2, .int .u8 2, .int .u8 2, .int .u8 2, .int .u8 2, .int .u8 2, .int .u8 2, .int .u8 2, .int .u8 2, .int .u8 2, .int .u8 2, .int .u8 2, .int .u8 2, .int .u8 2, .int .u8 2, .int .u8 2, .int .u8 2, .int .u8 2, .int .u8 19, .int .u8 3, .int .u8 3, .int .u8 3, .int .u8 3, .int .u8 3, .int .u8 3, .int .u8 3, .int .u8 3, .int .u8 3, .int .u8 3, .int .u8 3, .int .u8 3, .int .u8 35, .int .u8 3, .int .u8 3, .int .u8 52, .int .u8 4, .int .u8 4, .int .u8 4, .int .u8 68, .int .u8 241, .int .u8 241, .int .u8 241, .int .u8 241, .int .u8 241, .int .u8 241, .int .u8 241, .int .u8 241, .int .u8 241, .int .u8 241, .int .u8 241] t frozen
      | o => o) }
set_option maxRecDepth 100000 in
theorem laid_met (os : Os) : laidMet Tryd.prog Rows.fnExactReadRecordRow.laid ((laidWorld os).forCall (fun _ _ => 0) ⟨#[], #[.string ByteArray.empty], []⟩).memory :=
  laidMet_of_run' 8 (by kernel_rfl) (by kernel_rfl)
theorem ptr_row (u : TypeId) (h : Tryd.prog.typeName? 3 u = some "*errors.errorString") : u = 106 :=
  typeName_ptr_named (nm := "errors.errorString") (by rw [show "*" ++ "errors.errorString" = "*errors.errorString" by decide]; kernel_rfl) (by kernel_rfl) (by decide) u (by rw [show "*" ++ "errors.errorString" = "*errors.errorString" by decide]; exact h)
/-- What the row lists is what the walk asks of the variables. -/
theorem vars_of {W : World} (hL : laidMet Tryd.prog Rows.fnExactReadRecordRow.laid W) : P.Vars W := by
  obtain ⟨_, _, hs, -, -, -⟩ := laid_sentinel (n := "strconv.ErrSyntax") (g := 1) hL.tail.tail.tail.tail.tail (by kernel_rfl) (by kernel_rfl) Tryd.underlying54 ptr_row Tryd.underlying106 Tryd.underlying108 rfl rfl Tryd.underlying9 (by kernel_rfl) (by kernel_rfl)
  obtain ⟨_, _, hr, -, -, -⟩ := laid_sentinel (n := "strconv.ErrRange") (g := 2) hL.tail.tail.tail.tail (by kernel_rfl) (by kernel_rfl) Tryd.underlying54 ptr_row Tryd.underlying106 Tryd.underlying108 rfl rfl Tryd.underlying9 (by kernel_rfl) (by kernel_rfl)
  have hp : laidMet Tryd.prog (("internal/strconv.uint64pow10", Lib.tabData .u64 Lib.pow10Tab) :: _) W := hL.tail.tail
  have ht := Lib.tabIs_of_head (g := 5) (by kernel_rfl) (by kernel_rfl) Tryd.underlying114 Tryd.underlying89 (by kernel_rfl) (by kernel_rfl) hp
  exact ⟨⟨_, _, hs⟩, ⟨_, _, hr⟩, ht⟩
set_option maxRecDepth 100000 in
theorem contract (H : Type) (enc : TypeId × Value → H) (W : World) (base : Nat) (args : Array Value) (ds gs : List (DataW H)) (before : List MemPlace)
    (hval0 : ∀ (j : Nat) t v, Tryd.f7.params[j]? = some t → args[j]? = some v → Value.okWide Tryd.prog W .any base t v)
    (hW : DataW.Whole enc Tryd.prog Tryd.f7.params.toList Rows.fnExactReadRecordSpec.vars false W args.toList ds gs before)
    (hsz0 : (DataW.weightsEach Tryd.prog (Tryd.f7.params.toList ++ Rows.fnExactReadRecordSpec.plain.varTypes Tryd.prog) (ds ++ gs)).all (· ≤ reachBytes) = true) (hL : laidMet Tryd.prog Rows.fnExactReadRecordRow.laid W) :
    Calls Tryd.prog 7 args W fun e W' => ∃ v, e = .returned v ∧ Rows.fnExactReadRecordSpec.post enc Tryd.prog Tryd.f7 false true false false W args v W' := by
  have hsz : (DataW.weightsEach Tryd.prog (Tryd.f7.params.toList ++ Rows.fnExactReadRecordSpec.plain.varTypes Tryd.prog) (ds ++ gs)).all (· ≤ reachBytes) = true := hsz0
  have hval : ∀ (j : Nat) t v, Tryd.f7.params[j]? = some t → args[j]? = some v → Value.okWide Tryd.prog W .any base t v := hval0
  have hW' := hW
  obtain ⟨p, q, hA0, hV, rfl, hfz, hnd⟩ := hW
  have hA : DataW.TrodAll enc Tryd.prog W 0 (fun _ => true) true Tryd.f7.params.toList args.toList ds p := hA0
  rw [Tryd.params7] at hA hval hsz
  obtain ⟨v0, vs0, d0, ds0, p0, q0, hargs, rfl, rfl, h0, r0⟩ := trodAll_cons hA
  obtain ⟨rfl, rfl, rfl⟩ := trodAll_nil r0
  obtain rfl : args = #[v0] := by cases args; simp_all
  obtain ⟨rfl, rfl⟩ := trodVars_none hV
  obtain ⟨a0, rfl, rfl, rfl, y0⟩ := open_string Tryd.underlying9 (hval 0 9 v0 rfl rfl) h0
  have w0 : a0.size ≤ 140737488351232 := by
    have z := sized_string hsz (j := 0) (t := 9) rfl rfl
    rw [Array.length_toList] at z
    exact z
  clear hA0 hval0 hsz0 hsz
  refine (P.laws_FnExactReadRecord.walk Pure.FnExactReadRecord a0 W w0 (vars_of hL)).mono fun e W' ⟨he, bel⟩ => ?_
  subst he
  exact ⟨_, rfl, _, _, _, [], _, [], hW', trodAll_mk1 (shut_bool Tryd.underlying4 _), (trodAll_cons_mk (shut_string Tryd.underlying9 y0) trodAll_mk0), rfl, bel.frame _, fun h => by cases h⟩

set_option maxRecDepth 100000 in
theorem reads (os : Os) {H : Type} (enc : TypeId × Value → H) : ∃ places, DataW.whole enc Tryd.prog ((laidWorld os).forCall (fun _ _ => 0) ⟨#[], #[.string ByteArray.empty], []⟩).memory Tryd.f7.params.toList Rows.fnExactReadRecordSpec.vars false (#[.string ByteArray.empty] : Array Value).toList 8 = some ([.lit (.string [])], [], places) :=
  ⟨[], by kernel_rfl⟩
set_option maxRecDepth 100000 in
theorem lifted (os : Os) (started : os.Started) (H : Type) (enc : TypeId × Value → H) (F : Stop.Interp) :
    ReturnsInHanded {} Tryd.checked os 7 .any ((OpenSpec.ofChange Rows.fnExactReadRecordSpec).preRow enc Tryd.prog Tryd.f7 Rows.fnExactReadRecordRow.domain false Rows.fnExactReadRecordRow.laid) (((OpenSpec.ofChange Rows.fnExactReadRecordSpec).at F).post enc Tryd.prog Tryd.f7 false true false false) := by
  obtain ⟨places, hx⟩ := reads os enc
  refine returnsInHanded_of_row (C := Tryd.checked) (s := OpenSpec.ofChange Rows.fnExactReadRecordSpec) own started (by kernel_rfl) Tryd.func7
    (witness_row_at (enc := enc) (C := Tryd.checked) false (laidWorld os) #[.string ByteArray.empty] rfl (by kernel_rfl) (by kernel_rfl) (by kernel_rfl)
      (OpenSpec.preRow_of_cond 8 hx (by kernel_rfl) (fun k hk => by cases hk) (by kernel_rfl) (laid_met os))) ?_
  intro W base args ds gs before hval hW _ _ hsz hL _ _
  exact contract H enc W base args ds gs before hval hW hsz hL
theorem said : Rows.FnExactReadRecordSaid :=
  OpenClaim.holds_of_cond 7 Tryd.f7 rfl rfl rfl rfl rfl rfl rfl ⟨rfl, rfl, rfl, rfl, rfl⟩ rfl rfl rfl rfl rfl (by kernel_rfl) Tryd.func7 (by kernel_rfl)
    (of_decide_eq_true (by kernel_rfl)) (by unfold Func.isWrapper; first | (rw [if_pos (by decide +kernel)]; kernel_rfl) | (rw [if_neg (by decide +kernel)]; exact ⟨rfl, rfl⟩))
    (fun os started H enc _ F => by rw [OpenClaim.pre_eq_preRow]; exact lifted os started H enc F)
theorem wants : Tryd.f7.params.toList.all (fun t => Tryd.prog.wantsStandIn t == false) = true := by kernel_rfl
theorem plain (f : FuncId) (fn : Func) (hf : Tryd.pinned.checked.prog.funcNamed "loop.example/g00300/laws.FnExactReadRecord" = some f) (hfn : Tryd.pinned.checked.prog.funcs[f]? = some fn) :
    true = Tryd.pinned.checked.prog.looks [] ∧ ∀ (j : Nat) t, fn.params[j]? = some t → Tryd.pinned.checked.prog.wantsStandIn t = false := by
  obtain rfl : f = 7 := Option.some.inj ((show Tryd.prog.funcNamed "loop.example/g00300/laws.FnExactReadRecord" = some 7 by kernel_rfl).symm.trans hf) |>.symm
  obtain rfl : fn = Tryd.f7 := (Option.some.inj (Tryd.func7.symm.trans hfn)).symm
  refine ⟨by kernel_rfl, fun j t ht => ?_⟩
  exact eq_of_beq (List.all_eq_true.1 wants t (Array.mem_toList_iff.2 (Array.mem_of_getElem? ht)))
theorem proved : Rows.FnExactReadRecordCardSaid :=
  Claim7.holds_tied_plain_at .later [] _ _ _ _ said (fun _ h => by cases h) (by kernel_rfl) (fun _ h => by cases h) fnExactReadRecord_row_tie rfl ⟨rfl, rfl⟩ (by kernel_rfl) rfl plain (by kernel_rfl)
#print axioms proved
end Go.Proofs.YtecmicedacppbaaDoor.fnExactReadRecord
namespace Go.Proofs.YtecmicedacppbaaDoor
/-- The card, under a short name, for the claim. -/
theorem fnExactReadRecord_holds : Rows.FnExactReadRecordCardSaid := fnExactReadRecord.proved
end Go.Proofs.YtecmicedacppbaaDoor
