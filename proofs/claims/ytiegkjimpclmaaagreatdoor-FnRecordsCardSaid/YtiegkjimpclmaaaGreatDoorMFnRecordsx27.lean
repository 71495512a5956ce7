/- FnRecords: part 28 of 29 of my texts for this claim, joined; the theorem stands in the last. Conditions: none beyond the statement's. -/
import Derived.Test.YtiegkjimpclmaaaGreatDoorMFnRecordsx26
namespace Go.Proofs.YtiegkjimpclmaaaGreatDoor.Pure
open Go.RowKit Go.Proofs.YtiegkjimpclmaaaGreatDoor.P Go.Proofs.YtiegkjimpclmaaaGreatDoorW.PrintWords Go.Proofs.YtiegkjimpclmaaaGreatDoorW.PrintLast Go.Proofs.YtiegkjimpclmaaaGreatDoorW.PrintMore
set_option linter.unusedVariables false
set_option linter.unusedSimpArgs false
abbrev Rec5 := ByteArray × Int × Int × ByteArray × Bool
def badR : Rec5 := ((⟨#[]⟩ : ByteArray), 0, 0, (⟨#[]⟩ : ByteArray), false)
theorem split_none (s : ByteArray) (k : Nat) (h : ∀ x ∈ s.data.toList, x ≠ 32) : Lib.splitB ⟨#[32]⟩ 0 k s = [s] := by
 refine Lib.splitB_miss _ _ _ _ ?_
 rw [show Lib.indexB s ⟨#[32]⟩ = Lib.indexByte s.data.toList 32 from Lib.index_one _ _]
 rcases place_or 32 s.data.toList with ⟨h1, _⟩ | ⟨p, r, h1, _, _⟩
 · exact h1
 · exact absurd rfl (h 32 (by rw [h1]; simp))
theorem split_hit (s : ByteArray) (p r : List UInt8) (k : Nat) (h1 : s.data.toList = p ++ 32 :: r) (h2 : ∀ x ∈ p, x ≠ 32) : Lib.splitB ⟨#[32]⟩ 0 (k + 1) s = mkB p :: Lib.splitB ⟨#[32]⟩ 0 k (mkB r) := by
 have hix : Lib.indexByte s.data.toList 32 = (p.length : Int) := by
  rcases place_or 32 s.data.toList with ⟨_, g2⟩ | ⟨p', r', g1, g2, g3⟩
  · exact absurd rfl (g2 32 (by rw [h1]; simp))
  · have e : p' :: splitL 32 r' = p :: splitL 32 r := by rw [← splitL_hit 32 p' r' g2, ← g1, h1, splitL_hit 32 p r h2]
    rw [g3, (List.cons.inj e).1]
 have hl : p.length + (r.length + 1) = s.size := by rw [size_len, h1]; simp
 rw [Lib.splitB_hit _ _ _ _ p.length (by rw [show Lib.indexB s ⟨#[32]⟩ = Lib.indexByte s.data.toList 32 from Lib.index_one _ _]; exact hix), show (⟨#[32]⟩ : ByteArray).size = 1 from rfl, Nat.add_zero, ext_mkB, ext_end]
 have e1 : (s.data.toList.drop 0).take (p.length - 0) = p := by rw [h1]; simp
 have e2 : s.data.toList.drop (p.length + 1) = r := by
  rw [h1, show p ++ 32 :: r = (p ++ [32]) ++ r by simp, List.drop_append_of_le_length (by simp), List.drop_of_length_le (by simp), List.nil_append]
 rw [e1, e2]
theorem dig_no32 (u : Nat) : ∀ x ∈ Lib.decDigits u, x ≠ 32 := by
 intro x hx e
 subst e
 have := List.all_eq_true.1 (digits_all u u (Nat.le_refl _)).1 32 hx
 exact absurd this (by decide)
theorem dig_can {u : Nat} (h : u < 10000000000) : canL (Lib.decDigits u) = true := by
 obtain ⟨h1, h2, h3, h4⟩ := digits_all u u (Nat.le_refl _)
 have h5 : (Lib.decDigits u).length ≤ 10 := by
  rw [Lib.decDigits_length]
  refine Nat.le_of_not_lt fun hlt => ?_
  have := digits_many 9 u (by omega)
  omega
 unfold canL
 rw [h1, decide_eq_true (And.intro h3 h5), Bool.true_and, Bool.true_and, Bool.or_eq_true, decide_eq_true_eq, decide_eq_true_eq]
 by_cases hu : 1 ≤ u
 · exact .inr (h4 hu)
 · left
   obtain rfl : u = 0 := by omega
   rw [Lib.decDigits_one (by omega)]
   rfl
theorem dig_atoi {u : Nat} (h : u ≤ 100000) : atoiV (Lib.decDigits u) = (u : Int) := by
 have hsz := digits_len u (by omega)
 have hv := (digits_all u u (Nat.le_refl _)).2.1
 obtain ⟨v, h1, h2⟩ := number_eq (mkB (Lib.decDigits u)) 100000 (by rw [mkB_size]; omega) (by omega) (by omega)
 rw [mkB_data] at h1 h2
 have hb : (canL (Lib.decDigits u) && decide ((valL (Lib.decDigits u) : Int) ≤ 100000)) = true := by
  rw [dig_can (by omega), Bool.true_and, hv, decide_eq_true_eq]; omega
 rw [hb] at h1
 have hvu := h2 hb
 rw [hv] at hvu
 unfold impl_numberIn.f at h1
 rw [if_pos (by rw [mkB_size]; omega), mkB_data] at h1
 unfold atoiV
 cases ha : Lib.atoiAll (Lib.decDigits u)
 · next x =>
   rw [ha] at h1
   rw [← hvu]
   exact (Prod.mk.inj (Option.some.inj h1)).1
 · rw [ha] at h1
   cases (Prod.mk.inj (Option.some.inj h1)).2
 · rw [ha] at h1
   cases (Prod.mk.inj (Option.some.inj h1)).2
theorem good_no32 {r : List UInt8} (h : goodL r = true) : ∀ x ∈ r, x ≠ 32 := by
 intro x hx e
 subst e
 have hg := good_all h
 have hne : r ≠ [] := by rintro rfl; cases hx
 obtain ⟨p, hp, hb⟩ := (split_mem r 32 (by decide)).1 hx
 have := hg.2 p (by unfold labelsL; rw [if_neg hne]; exact hp)
 unfold isLabelL at this
 rw [Bool.or_eq_true, beq_iff_eq, Bool.and_eq_true, List.all_eq_true] at this
 rcases this with e | e
 · rw [e] at hb; simp at hb
 · exact absurd (e.2 32 hb) (by decide)
theorem rtext_data (a : ByteArray) (b c : Int) (d : ByteArray) : (rtext a b c d).data.toList = (toldB a).data.toList ++ 32 :: (Lib.decDigits c.toNat ++ 32 :: (Lib.decDigits b.toNat ++ 32 :: d.data.toList)) := by
 unfold rtext itB
 simp [ByteArray.data_append, mkB]
theorem rtext_split (a : ByteArray) (b c : Int) (d : ByteArray) (h : goodL a.data.toList = true) : splitL 32 (rtext a b c d).data.toList = (toldB a).data.toList :: Lib.decDigits c.toNat :: Lib.decDigits b.toNat :: splitL 32 d.data.toList := by
 have ht : ∀ x ∈ (toldB a).data.toList, x ≠ 32 := by
  unfold toldB
  split
  · intro x hx
    simp at hx
    subst hx
    decide
  · exact good_no32 h
 rw [rtext_data, splitL_hit 32 _ _ ht, splitL_hit 32 _ _ (dig_no32 _), splitL_hit 32 _ _ (dig_no32 _)]
theorem rtext_size (a : ByteArray) (b c : Int) (d : ByteArray) (ha : a.size ≤ 60) (hb : 1 ≤ b ∧ b ≤ 16) (hc : 0 ≤ c ∧ c ≤ 100000) (hd : d.size ≤ 100) : (rtext a b c d).size ≤ 300 := by
 have t1 := told_size a
 have t2 := itB_size b (by omega) (by omega)
 have t3 := itB_size c (by omega) (by omega)
 unfold rtext
 simp only [ByteArray.size_append, sp1]
 omega
def readI (k : Nat) (s a : ByteArray) (b c : Int) (d : ByteArray) : Option Rec5 := (impl_GoodRecord.f k a b c d).bind fun g => (if g = true then ((impl_recordText.f a b c d).bind fun t => (if t.toList = s.toList then (some (a, b, c, d, true)) else (some badR))) else (some badR))
def nmOf (p : List UInt8) : ByteArray := if (mkB p).toList = ([46] : List UInt8) then (⟨#[]⟩ : ByteArray) else mkB p
theorem words_of (s : List UInt8) : ((splitL 32 s).length < 4 ∧ ∀ k, min 3 s.length = k → ((Lib.splitB ⟨#[32]⟩ 0 k (mkB s)).length : Int) ≠ 4) ∨ ∃ p0 p1 p2 d, s = p0 ++ 32 :: (p1 ++ 32 :: (p2 ++ 32 :: d)) ∧ splitL 32 s = p0 :: p1 :: p2 :: splitL 32 d ∧ Lib.splitB ⟨#[32]⟩ 0 (min 3 s.length) (mkB s) = [mkB p0, mkB p1, mkB p2, mkB d] := by
 rcases place_or 32 s with ⟨_, h⟩ | ⟨p0, r0, rfl, h0, _⟩
 · left
   rw [splitL_none 32 s h]
   refine ⟨by simp, fun k hk => ?_⟩
   rw [split_none (mkB s) k (by rw [mkB_data]; exact h)]
   simp
 · rcases place_or 32 r0 with ⟨_, h⟩ | ⟨p1, r1, rfl, h1, _⟩
   · left
     rw [splitL_hit 32 p0 r0 h0, splitL_none 32 r0 h]
     refine ⟨by simp, fun k hk => ?_⟩
     simp only [List.length_append, List.length_cons] at hk
     obtain ⟨k, rfl⟩ : ∃ j, k = j + 1 := ⟨k - 1, by omega⟩
     rw [split_hit _ p0 r0 k (mkB_data _) h0, split_none (mkB r0) k (by rw [mkB_data]; exact h)]
     simp
   · rcases place_or 32 r1 with ⟨_, h⟩ | ⟨p2, d, rfl, h2, _⟩
     · left
       rw [splitL_hit 32 p0 _ h0, splitL_hit 32 p1 r1 h1, splitL_none 32 r1 h]
       refine ⟨by simp, fun k hk => ?_⟩
       simp only [List.length_append, List.length_cons] at hk
       obtain ⟨k, rfl⟩ : ∃ j, k = j + 1 + 1 := ⟨k - 2, by omega⟩
       rw [split_hit _ p0 _ (k + 1) (mkB_data _) h0, split_hit _ p1 r1 k (mkB_data _) h1, split_none (mkB r1) k (by rw [mkB_data]; exact h)]
       simp
     · right
       refine ⟨p0, p1, p2, d, rfl, ?_, ?_⟩
       · rw [splitL_hit 32 p0 _ h0, splitL_hit 32 p1 _ h1, splitL_hit 32 p2 d h2]
       · have : min 3 (p0 ++ 32 :: (p1 ++ 32 :: (p2 ++ 32 :: d))).length = 0 + 1 + 1 + 1 := by
          simp only [List.length_append, List.length_cons]; omega
         rw [this, split_hit _ p0 _ _ (mkB_data _) h0, split_hit _ p1 _ _ (mkB_data _) h1, split_hit _ p2 d _ (mkB_data _) h2]
         rfl
theorem splitN_eq (s : ByteArray) (hs : s.size ≤ 1048576) : strings_SplitN.f s (⟨#[32]⟩ : ByteArray) 4 = some (Lib.splitB ⟨#[32]⟩ 0 (min 3 s.size) s) := by
 unfold strings_SplitN.f
 rw [if_pos (show (⟨#[32]⟩ : ByteArray).size = 1 from rfl), if_pos (by omega), if_pos (by omega)]
 rw [show min (4 : Int).toNat (s.size + 1) - 1 = min 3 s.size by show min 4 (s.size + 1) - 1 = _; omega]
theorem impl_goes (s : ByteArray) (hs : s.size ≤ 300) (p0 p1 p2 d : List UInt8) (h0 : s.data.toList = p0 ++ 32 :: (p1 ++ 32 :: (p2 ++ 32 :: d))) (h : Lib.splitB ⟨#[32]⟩ 0 (min 3 s.size) s = [mkB p0, mkB p1, mkB p2, mkB d]) {q : Rec5} (hq : Ev (fun k => readI k s (nmOf p0) (atoiV p2) (atoiV p1) (mkB d)) q) : Ev (fun k => impl_ReadRecord.f k s) q := by
 have hl : p0.length + (p1.length + (p2.length + (d.length + 1) + 1) + 1) = s.size := by rw [size_len, h0]; simp
 have a1 : ∀ p : List UInt8, p.length ≤ 300 → strconv_Atoi.f (mkB p) = some (atoiV p, none) := fun p hp => by
  unfold strconv_Atoi.f
  rw [if_pos (by rw [mkB_size]; omega), mkB_data]
 have key : Ev (fun k => impl_ReadRecord.j1 k s [mkB p0, mkB p1, mkB p2, mkB d] (nmOf p0) 0 0 (mkB d)) q := by
  refine Ev.step (f := fun k => readI k s (nmOf p0) (atoiV p2) (atoiV p1) (mkB d)) (fun k => ?_) hq
  show (if 1 < ((4 : Nat) : Int) then ((strconv_Atoi.f (mkB p1)).bind fun bt341 => (if 2 < ((4 : Nat) : Int) then ((strconv_Atoi.f (mkB p2)).bind fun bt344 => _) else none)) else none) = _
  rw [if_pos (by omega), a1 p1 (by omega), Option.bind_some, if_pos (by omega), a1 p2 (by omega), Option.bind_some]
  rfl
 refine Ev.congr (f := fun k => impl_ReadRecord.j0 k s [mkB p0, mkB p1, mkB p2, mkB d] false) (fun k => ?_) (Ev.step (f := fun k => impl_ReadRecord.j1 k s [mkB p0, mkB p1, mkB p2, mkB d] (nmOf p0) 0 0 (mkB d)) (fun k => ?_) key)
 · unfold impl_ReadRecord.f
   rw [splitN_eq s (by omega), Option.bind_some, h, if_neg (by omega)]
   rfl
 · show (if (mkB p0).toList = ([46] : List UInt8) then impl_ReadRecord.j1 k s [mkB p0, mkB p1, mkB p2, mkB d] (⟨#[]⟩ : ByteArray) 0 0 (mkB d) else impl_ReadRecord.j1 k s [mkB p0, mkB p1, mkB p2, mkB d] (mkB p0) 0 0 (mkB d)) = _
   unfold nmOf
   split <;> rfl
theorem nm_told (a : ByteArray) (h : goodL a.data.toList = true) : nmOf (toldB a).data.toList = a := by
 have hs : ∀ x : ByteArray, mkB x.data.toList = x := fun x => by simp [mkB]
 unfold nmOf
 rw [hs]
 unfold toldB
 by_cases e : a.toList = ([] : List UInt8)
 · rw [if_pos e, if_pos (by rw [Lib.toList_data])]
   rw [Lib.toList_data] at e
   have := hs a
   rw [e] at this
   exact this
 · rw [if_neg e]
   by_cases e2 : a.toList = ([46] : List UInt8)
   · exfalso
     rw [Lib.toList_data] at e2
     rw [e2] at h
     exact absurd h (by decide)
   · rw [if_neg e2]
theorem rec_back (a : ByteArray) (b c : Int) (d : ByteArray) (ha : a.size ≤ 1048576) (hd : d.size ≤ 1048576) (hg : Ev (fun k => impl_GoodRecord.f k a b c d) true) : Ev (fun k => impl_ReadRecord.f k (rtext a b c d)) (a, b, c, d, true) := by
 obtain ⟨p1, p2, p3, p4, p5⟩ := good_parts a b c d ha hd hg
 have hz := rtext_size a b c d p1 p3 p4 p5
 have hsp := rtext_split a b c d p2
 have hdt := rtext_data a b c d
 have hi := rtext_impl a b c d ha hd (by omega) (by omega)
 have hw := words_of (rtext a b c d).data.toList
 have hs : ∀ x : ByteArray, mkB x.data.toList = x := fun x => by simp [mkB]
 rw [hs, ← size_len] at hw
 generalize rtext a b c d = s at *
 rcases hw with ⟨h1, _⟩ | ⟨q0, q1, q2, e, h0, h1, h2⟩
 · exfalso
   rw [hsp] at h1
   have := List.length_pos_iff.2 (splitL_ne 32 d.data.toList)
   simp only [List.length_cons] at h1
   omega
 · rw [hsp] at h1
   obtain ⟨e0, h1⟩ := List.cons.inj h1
   obtain ⟨e1, h1⟩ := List.cons.inj h1
   obtain ⟨e2, h1⟩ := List.cons.inj h1
   have ee : e = d.data.toList := by
    have := h0.symm.trans hdt
    rw [← e0, ← e1, ← e2] at this
    have := List.append_cancel_left this
    have := List.append_cancel_left (List.cons.inj this).2
    have := List.append_cancel_left (List.cons.inj this).2
    exact (List.cons.inj this).2
   refine impl_goes s hz q0 q1 q2 e h0 h2 ?_
   rw [← e0, ← e1, ← e2, ee, nm_told a p2, hs, dig_atoi (by omega), dig_atoi (by omega), show ((b.toNat : Nat) : Int) = b by omega, show ((c.toNat : Nat) : Int) = c by omega]
   refine Ev.bind hg ?_
   simp only [if_true, hi, Option.bind_some]
   exact Ev.now _
theorem or2_neg (a b : Int) : or2 (-a) (-b) = - or2 a b := by
 unfold or2
 by_cases h : a = 0
 · rw [if_pos (by omega), if_pos h]
 · rw [if_neg (by omega), if_neg h]
theorem or2_zero (a b : Int) : or2 a b = 0 ↔ a = 0 ∧ b = 0 := by
 unfold or2
 by_cases h : a = 0
 · rw [if_pos h]; exact ⟨fun e => ⟨h, e⟩, fun e => e.2⟩
 · rw [if_neg h]; exact ⟨fun e => absurd e h, fun e => absurd e.1 h⟩
theorem cmpI_neg (a b : Int) : cmpI b a = - cmpI a b := by
 unfold cmpI
 by_cases h : a < b
 · rw [if_neg (by omega), if_pos h, if_pos h]; rfl
 · by_cases h2 : b < a
   · rw [if_pos h2, if_neg h, if_pos h2]
   · rw [if_neg h2, if_neg h, if_neg h, if_neg h2]; rfl
theorem cmpI_zero (a b : Int) : cmpI a b = 0 ↔ a = b := by
 unfold cmpI
 by_cases h : a < b
 · rw [if_pos h]; omega
 · rw [if_neg h]
   by_cases h2 : b < a
   · rw [if_pos h2]; omega
   · rw [if_neg h2]; omega
theorem cmpB_neg : ∀ x y : List UInt8, Lib.compareBytes y x = - Lib.compareBytes x y
 | [], [] => by simp [Lib.compareBytes]
 | [], _ :: _ => by simp [Lib.compareBytes]
 | _ :: _, [] => by simp [Lib.compareBytes]
 | a :: x, b :: y => by
  have ih := cmpB_neg x y
  unfold Lib.compareBytes
  by_cases h1 : a < b
  · have h2 : ¬ b < a := by rw [UInt8.lt_iff_toNat_lt] at h1 ⊢; omega
    simp [h1, h2]
  · by_cases h2 : b < a
    · simp [h1, h2]
    · simp [h1, h2, ih]
theorem cmpB_zero (x y : List UInt8) : Lib.compareBytes x y = 0 ↔ x = y := by
 rw [cmpB_eq]
 by_cases h : x = y
 · rw [if_pos h]; exact ⟨fun _ => h, fun _ => rfl⟩
 · rw [if_neg h]
   refine ⟨fun e => ?_, fun e => absurd e h⟩
   split at e <;> omega
theorem ordR_neg (a : List UInt8) (b c : Int) (x a' : List UInt8) (b' c' : Int) (x' : List UInt8) : ordR a' b' c' x' a b c x = - ordR a b c x a' b' c' x' := by
 unfold ordR
 rw [ord_neg a a', cmpI_neg b b', cmpB_neg x x', cmpI_neg c c', or2_neg, or2_neg, or2_neg]
theorem ordR_zero (a : List UInt8) (b c : Int) (x a' : List UInt8) (b' c' : Int) (x' : List UInt8) : ordR a b c x a' b' c' x' = 0 ↔ a = a' ∧ b = b' ∧ x = x' ∧ c = c' := by
 unfold ordR
 rw [or2_zero, or2_zero, or2_zero, ord_zero, cmpI_zero, cmpB_zero, cmpI_zero]
 exact ⟨fun h => ⟨h.1.1, h.1.2, h.2.1, h.2.2⟩, fun h => ⟨⟨h.1, h.2.1⟩, h.2.2.1, h.2.2.2⟩⟩
theorem or2_range {a b : Int} (ha : a = -1 ∨ a = 0 ∨ a = 1) (hb : b = -1 ∨ b = 0 ∨ b = 1) : or2 a b = -1 ∨ or2 a b = 0 ∨ or2 a b = 1 := by
 unfold or2
 split
 · exact hb
 · exact ha
theorem cmpI_range (a b : Int) : cmpI a b = -1 ∨ cmpI a b = 0 ∨ cmpI a b = 1 := by
 unfold cmpI
 split
 · exact .inl rfl
 · split
   · exact .inr (.inr rfl)
   · exact .inr (.inl rfl)
theorem cmpB_range (x y : List UInt8) : Lib.compareBytes x y = -1 ∨ Lib.compareBytes x y = 0 ∨ Lib.compareBytes x y = 1 := by
 rw [cmpB_eq]
 split
 · exact .inr (.inl rfl)
 · split
   · exact .inl rfl
   · exact .inr (.inr rfl)
theorem ordR_range (a : List UInt8) (b c : Int) (x a' : List UInt8) (b' c' : Int) (x' : List UInt8) : ordR a b c x a' b' c' x' = -1 ∨ ordR a b c x a' b' c' x' = 0 ∨ ordR a b c x a' b' c' x' = 1 :=
 or2_range (or2_range (ord_range _ _) (cmpI_range _ _)) (or2_range (cmpB_range _ _) (cmpI_range _ _))
end Go.Proofs.YtiegkjimpclmaaaGreatDoor.Pure
namespace Go.Proofs.YtiegkjimpclmaaaGreatDoor.Pure
open Go.RowKit Go.Proofs.YtiegkjimpclmaaaGreatDoor.P Go.Proofs.YtiegkjimpclmaaaGreatDoorW.PrintWords Go.Proofs.YtiegkjimpclmaaaGreatDoorW.PrintLast
set_option linter.unusedVariables false
set_option linter.unusedSimpArgs false
theorem or_add (n c : Nat) (h : c < 256) : n * 256 ||| c = n * 256 + c := by
 have := Nat.shiftLeft_add_eq_or_of_lt (b := c) (i := 8) (by omega) n
 rw [Nat.shiftLeft_eq] at this
 exact this.symm
def valB (l : List UInt8) (n : Nat) : Nat := l.foldl (fun a x => a * 256 + x.toNat) n
theorem val_loop (b : ByteArray) (hb : b.size ≤ 4) : ∀ (m i n : Nat), i + m = b.size → n < 2 ^ (8 * i) → Ev (fun k => impl_number.l0 k b (n : Int) (b.size : Int) (i : Int)) (valB (b.data.toList.drop i) n : Int)
 | 0, i, n, h, hn => by
  rw [List.drop_of_length_le (by rw [← size_len]; omega)]
  exact Ev.step (f := fun _ => some (n : Int)) (fun k => by rw [impl_number.l0, if_neg (by omega)]) (Ev.now _)
 | m + 1, i, n, h, hn => by
  have hl : i < b.data.toList.length := by rw [← size_len]; omega
  have hle : 2 ^ (8 * i) ≤ 2 ^ 24 := Nat.pow_le_pow_right (by omega) (by omega)
  have hc := (b.data.toList[i]).toNat_lt
  have hbt : bt b (i : Int) = ((b.data.toList[i]).toNat : Int) := by
   rw [bt_getD b i (by omega), List.getD_eq_getElem?_getD, List.getElem?_eq_getElem hl]
   rfl
  have h256 : 2 ^ (8 * (i + 1)) = 2 ^ (8 * i) * 256 := by rw [show 8 * (i + 1) = 8 * i + 8 by omega, Nat.pow_add]
  have ih := val_loop b hb m (i + 1) (n * 256 + (b.data.toList[i]).toNat) (by omega) (by omega)
  rw [List.drop_eq_getElem_cons hl]
  have ev : Go.bits .or .i64 (wrap64 ((n : Int) * 256)) (wrap64 (bt b (i : Int))) = ((n * 256 + (b.data.toList[i]).toNat : Nat) : Int) := by
   rw [hbt, show wrap64 ((n : Int) * 256) = ((n * 256 : Nat) : Int) by unfold wrap64; omega, show wrap64 ((b.data.toList[i]).toNat : Int) = ((b.data.toList[i]).toNat : Int) by unfold wrap64; omega, or64 _ _ (by omega) (by omega), or_add _ _ (by omega)]
  exact Ev.step (fun k => by rw [impl_number.l0, if_pos (by omega), if_pos (by omega), if_pos (by omega), ev, w64n (by omega)]) ih
theorem num_val (b : ByteArray) (hb : b.size ≤ 4) : Ev (fun k => impl_number.f k b) (valB b.data.toList 0 : Int) := by
 have := val_loop b hb b.size 0 0 (by omega) (by decide)
 rwa [List.drop_zero] at this
theorem big4_val (n : Int) (h0 : 0 ≤ n) (h1 : n < 4294967296) : Ev (fun k => impl_number.f k (strOfNums [n / 16777216 % 256, n / 65536 % 256, n / 256 % 256, n % 256])) n := by
 have := num_val (strOfNums [n / 16777216 % 256, n / 65536 % 256, n / 256 % 256, n % 256]) (by rw [strOfNums_size]; show 4 ≤ 4; omega)
 have e : (valB (strOfNums [n / 16777216 % 256, n / 65536 % 256, n / 256 % 256, n % 256]).data.toList 0 : Int) = n := by
  unfold strOfNums valB
  simp only [List.map_cons, List.map_nil, List.foldl_cons, List.foldl_nil, UInt8.toNat_ofNat']
  omega
 rwa [e] at this
theorem big2_val (n : Int) (h0 : 0 ≤ n) (h1 : n < 65536) : Ev (fun k => impl_number.f k (strOfNums [n / 256 % 256, n % 256])) n := by
 have := num_val (strOfNums [n / 256 % 256, n % 256]) (by rw [strOfNums_size]; show 2 ≤ 4; omega)
 have e : (valB (strOfNums [n / 256 % 256, n % 256]).data.toList 0 : Int) = n := by
  unfold strOfNums valB
  simp only [List.map_cons, List.map_nil, List.foldl_cons, List.foldl_nil, UInt8.toNat_ofNat']
  omega
 rwa [e] at this
theorem dig_back {l : List UInt8} (h : canL l = true) : Lib.decDigits (valL l) = l := by
 unfold canL at h
 simp only [Bool.and_eq_true, decide_eq_true_eq, Bool.or_eq_true] at h
 exact digits_back l.length l (Nat.le_refl _) (fun e => by rw [e] at h; simp at h) h.1.2 h.2
theorem back_of {kind : Int} {b d : ByteArray} (hb : b.size ≤ 100) (h : Ev (fun k => impl_DataBytes.f k kind d) (b, true)) (hp : Ev (fun k => preI k kind b) d) : Ev (fun k => impl_ReadData.f k kind b) (d, true) := by
 unfold impl_ReadData.f
 simp only [if_neg (show ¬ 100 < b.size by omega)]
 refine Ev.bind hp ?_
 have := finI_ev (b := b) h
 unfold finR at this
 rwa [if_pos ⟨rfl, rfl⟩] at this
theorem preI_6 (k : Nat) (b : ByteArray) (h : b.size = 4) : preI k 6 b = (impl_number.f k b).bind fun n => strconv_Itoa.f n := by
 unfold preI
 rw [if_neg (by omega), if_neg (by omega), if_pos ⟨rfl, h⟩]
theorem preI_16 (k : Nat) (b : ByteArray) (h : 0 < b.size) : preI k 16 b = some (b.extract 1 b.size) := by
 unfold preI
 rw [if_neg (by omega), if_neg (by omega), if_neg (by omega), if_neg (by omega), if_pos ⟨rfl, h⟩]
theorem back_serial {d b : ByteArray} (hd : d.size ≤ 1048576) (h : Ev (fun k => impl_DataBytes.f k 6 d) (b, true)) : Ev (fun k => impl_ReadData.f k 6 b) (d, true) := by
 obtain ⟨k, hk⟩ := Ev.rounds h
 have hsz := (data_size hd hk rfl).1
 unfold impl_DataBytes.f at hk
 rw [if_neg (by decide), if_neg (by decide), if_pos rfl] at hk
 unfold dataSoa at hk
 obtain ⟨v, hv1, hv2⟩ := number_eq d 4294967295 (by omega) (by omega) (by omega)
 rw [hv1, Option.bind_some] at hk
 by_cases hc : (canL d.data.toList && decide ((valL d.data.toList : Int) ≤ 4294967295)) = true
 · have hv := hv2 hc
   rw [if_pos hc] at hk
   obtain ⟨t, ht, hk⟩ := Option.bind_eq_some_iff.mp hk
   have e : Ev (fun k => impl_big.f k v 4) t := Ev.of (fun k => impl_big.mono _ _ _) ht
   have et := Ev.unique e (big4 v)
   obtain rfl : t = b := (Prod.mk.inj (Option.some.inj hk)).1
   rw [Bool.and_eq_true, decide_eq_true_eq] at hc
   refine back_of hsz h ?_
   have h4 : t.size = 4 := by rw [et, strOfNums_size]; rfl
   have hn := big4_val v (by omega) (by omega)
   rw [← et] at hn
   refine Ev.congr (fun k => preI_6 k t h4) (Ev.bind hn ?_)
   rw [itoa_it v (by omega) (by omega)]
   have : itB v = d := by
    apply ext_data
    unfold itB
    rw [mkB_data, hv, Int.toNat_natCast, dig_back hc.1]
   rw [this]
   exact Ev.now _
 · rw [if_neg hc] at hk
   cases (Prod.mk.inj (Option.some.inj hk)).2
theorem back_text {d b : ByteArray} (hd : d.size ≤ 1048576) (h : Ev (fun k => impl_DataBytes.f k 16 d) (b, true)) : Ev (fun k => impl_ReadData.f k 16 b) (d, true) := by
 obtain ⟨k, hk⟩ := Ev.rounds h
 have hsz := (data_size hd hk rfl).1
 unfold impl_DataBytes.f at hk
 rw [if_neg (by decide), if_neg (by decide), if_neg (by decide), if_neg (by decide), if_pos rfl] at hk
 unfold dataTxt at hk
 by_cases c : (d.size : Int) > 30
 · rw [if_pos c] at hk
   cases (Prod.mk.inj (Option.some.inj hk)).2
 rw [if_neg c] at hk
 split at hk
 · cases (Prod.mk.inj (Option.some.inj hk)).2
 obtain ⟨t, ht, hk⟩ := Option.bind_eq_some_iff.mp hk
 have hz := (big_size ht).1 rfl
 rw [if_pos (by omega)] at hk
 obtain rfl : t ++ d = b := (Prod.mk.inj (Option.some.inj hk)).1
 refine back_of hsz h ?_
 have hs : (t ++ d).size = 1 + d.size := by rw [ByteArray.size_append, hz]
 have e : (t ++ d).extract 1 (t ++ d).size = d := by
  apply ext_data
  have ht1 : t.data.toList.length = 1 := by rw [← size_len]; exact hz
  rw [ext_end, mkB_data]
  have : (t ++ d).data.toList = t.data.toList ++ d.data.toList := by simp
  rw [this, List.drop_append_of_le_length (by omega), List.drop_of_length_le (by omega), List.nil_append]
 exact Ev.congr (fun k => (preI_16 k (t ++ d) (by omega)).trans (by rw [e])) (Ev.now _)
theorem join_split (s : List UInt8) : Lib.join (splitL 46 s) [46] = s := by
 have : ∀ n (s : List UInt8), s.length ≤ n → Lib.join (splitL 46 s) [46] = s := by
  intro n
  induction n with
  | zero =>
   intro s hs
   obtain rfl : s = [] := List.length_eq_zero_iff.1 (by omega)
   rfl
  | succ n ih =>
   intro s hs
   rcases place_or 46 s with ⟨_, h2⟩ | ⟨p, r, h1, h2, h3⟩
   · rw [splitL_none _ _ h2]
     rw [Lib.join_cons]
     simp [Lib.joinTail]
   · rw [h1, splitL_hit 46 p r h2]
     obtain ⟨q, qs, hq⟩ := List.exists_cons_of_ne_nil (splitL_ne 46 r)
     have := ih r (by rw [h1] at hs; simp at hs; omega)
     rw [hq] at this ⊢
     rw [Lib.join_cons, tail_cons, ← Lib.join_cons, this]
 exact this s.length s (Nat.le_refl _)
theorem name_back {s : ByteArray} (h : goodL s.data.toList = true) : nameR ((labelsL s.data.toList).map mkB) = (s, true) := by
 obtain ⟨h1, h2⟩ := good_all h
 have hj : joinL ((labelsL s.data.toList).map mkB) = s.data.toList := by
  unfold joinL
  rw [List.map_map]
  have : ((fun x : ByteArray => x.data.toList) ∘ mkB) = id := by funext z; exact mkB_data z
  rw [this, List.map_id]
  unfold labelsL
  split
  · next e => rw [e]; rfl
  · exact join_split _
 unfold nameR
 rw [if_pos, hj, if_pos h, data_mkB]
 simp only [Bool.and_eq_true, decide_eq_true_eq, List.all_eq_true, List.length_map]
 refine ⟨h1, fun x hx => ?_⟩
 obtain ⟨z, hz, rfl⟩ := List.mem_map.1 hx
 rw [mkB_data]
 exact h2 z hz
theorem l0_back : ∀ (k : Nat) (parts : List ByteArray) (out : ByteArray) (i : Nat) (r : ByteArray × Bool), impl_DataBytes.l0 k parts out (i : Int) = some r → r.2 = true → i ≤ parts.length → parts.length < 1099511627776 → (∀ p ∈ parts, p.size ≤ 1048576) →
 (∀ p ∈ parts.drop i, canL p.data.toList = true ∧ valL p.data.toList ≤ 255) ∧ r.1 = out ++ mkB ((parts.drop i).map fun p => UInt8.ofNat (valL p.data.toList))
 | 0, parts, out, i, r, h, h2, hi, hl, hs => by simp [impl_DataBytes.l0] at h
 | k + 1, parts, out, i, r, h, h2, hi, hl, hs => by
  unfold impl_DataBytes.l0 at h
  by_cases c : (i : Int) < (parts.length : Int)
  · have hi' : i < parts.length := by omega
    obtain ⟨v, hv1, hv2⟩ := number_eq parts[i] 255 (by have := hs _ (List.getElem_mem hi'); omega) (by omega) (by omega)
    rw [if_pos c, if_pos (by omega), td_rd parts i hi', hv1, Option.bind_some] at h
    by_cases hc : (canL parts[i].data.toList && decide ((valL parts[i].data.toList : Int) ≤ 255)) = true
    · rw [if_pos hc] at h
      have hv := hv2 hc
      rw [Bool.and_eq_true, decide_eq_true_eq] at hc
      by_cases c4 : (parts.length : Int) = 4
      · rw [if_pos c4] at h
        obtain ⟨t, ht, h⟩ := Option.bind_eq_some_iff.mp h
        have e : Ev (fun k => impl_big.f k v 1) t := Ev.of (fun k => impl_big.mono _ _ _) ht
        have et : t = mkB [UInt8.ofNat (valL parts[i].data.toList)] := by
         rw [Ev.unique e (big1 v), hv, show ((valL parts[i].data.toList : Nat) : Int) % 256 = ((valL parts[i].data.toList : Nat) : Int) by omega]
         rfl
        by_cases c5 : out.size + t.size ≤ 9223372036854775807
        · rw [if_pos c5, w64n (by omega)] at h
          obtain ⟨g1, g2⟩ := l0_back k parts (out ++ t) (i + 1) r h h2 (by omega) hl hs
          rw [List.drop_eq_getElem_cons hi']
          refine ⟨fun p hp => ?_, ?_⟩
          · rcases List.mem_cons.mp hp with rfl | hp
            · exact ⟨hc.1, by omega⟩
            · exact g1 p hp
          · rw [g2, et, List.map_cons]
            apply ext_data
            simp [mkB_data]
        · rw [if_neg c5] at h; cases h
      · rw [if_neg c4] at h
        obtain rfl := Option.some.inj h
        cases h2
    · rw [if_neg hc] at h
      obtain rfl := Option.some.inj h
      cases h2
  · rw [if_neg c] at h
    obtain rfl := Option.some.inj h
    rw [List.drop_of_length_le (by omega)]
    refine ⟨(fun p hp => by cases hp), ?_⟩
    apply ext_data
    simp [mkB_data]
theorem preI_1 (k : Nat) (b : ByteArray) (h : b.size = 4) : preI k 1 b = some (mkB (joinL (partsI b))) := by
 unfold preI
 rw [if_pos ⟨rfl, h⟩]
theorem back_addr {d b : ByteArray} (hd : d.size ≤ 1048576) (h : Ev (fun k => impl_DataBytes.f k 1 d) (b, true)) : Ev (fun k => impl_ReadData.f k 1 b) (d, true) := by
 obtain ⟨k, hk⟩ := Ev.rounds h
 have hsz := (data_size hd hk rfl).1
 unfold impl_DataBytes.f at hk
 rw [if_pos rfl] at hk
 obtain ⟨parts, hp, hk⟩ := Option.bind_eq_some_iff.mp hk
 unfold strings_Split.f at hp
 rw [if_pos (show (⟨#[46]⟩ : ByteArray).size = 1 from rfl), if_pos (by omega), show (⟨#[46]⟩ : ByteArray).data.toList.headD 0 = 46 from rfl] at hp
 obtain rfl := Option.some.inj hp
 have hlen := splitL_len 46 d.data.toList
 rw [← size_len] at hlen
 have hne := List.length_pos_iff.2 (splitL_ne 46 d.data.toList)
 have hll : ((splitL 46 d.data.toList).map mkB).length = (splitL 46 d.data.toList).length := List.length_map ..
 have hps : ∀ p ∈ (splitL 46 d.data.toList).map mkB, p.size ≤ 1048576 := by
  intro x hx
  obtain ⟨q, hq, rfl⟩ := List.mem_map.1 hx
  have := splitL_part 46 _ q hq
  rw [← size_len] at this
  rw [mkB_size]
  omega
 have hz := l0_size k _ _ 0 _ hk rfl (by omega) (by omega)
 have h4 := hz.1 (by omega)
 have hb4 : b.size = 4 := by
  have := hz.2
  rw [h4] at this
  exact this.trans (by show 0 + (4 - 0) = 4; omega)
 obtain ⟨g1, g2⟩ := l0_back k _ _ 0 _ hk rfl (by omega) (by omega) hps
 rw [List.drop_zero] at g1 g2
 refine back_of hsz h ?_
 have e : partsI b = (splitL 46 d.data.toList).map mkB := by
  have gb : b.data.toList = ((splitL 46 d.data.toList).map mkB).map fun p => UInt8.ofNat (valL p.data.toList) := by
   replace g2 : b = (⟨#[]⟩ : ByteArray) ++ mkB (((splitL 46 d.data.toList).map mkB).map fun p => UInt8.ofNat (valL p.data.toList)) := g2
   rw [g2]
   simp [mkB_data]
  unfold partsI bytesOf
  rw [gb, List.map_map, List.map_map]
  refine (List.map_congr_left fun p hp => ?_).trans (List.map_id _)
  obtain ⟨c1, c2⟩ := g1 p hp
  show itoaB ((UInt8.ofNat (valL p.data.toList)).toNat : Int) = p
  rw [UInt8.toNat_ofNat', itoaB_it _ (by omega)]
  apply ext_data
  unfold itB
  rw [mkB_data, Int.toNat_natCast, Nat.mod_eq_of_lt (by omega), dig_back c1]
 have ej : mkB (joinL (partsI b)) = d := by
  rw [e]
  apply ext_data
  rw [mkB_data]
  unfold joinL
  rw [List.map_map, show ((fun x : ByteArray => x.data.toList) ∘ mkB) = id from funext fun x => by simp [mkB_data], List.map_id, join_split]
 exact Ev.congr (fun k => (preI_1 k b hb4).trans (by rw [ej])) (Ev.now _)
def encL (l : List ByteArray) : List UInt8 := l.flatMap fun p => UInt8.ofNat p.size :: p.data.toList
theorem lb_loop (parts : List ByteArray) (hp : ∀ p ∈ parts, p.size ≤ 100) (hl : parts.length ≤ 1000) : ∀ (m i : Nat) (acc : ByteArray), i + m = parts.length → acc.size + m * 1024 < 1099511627776 →
 Ev (fun k => impl_labelBytes.l0 k acc parts (parts.length : Int) (i : Int)) (acc ++ mkB (encL (parts.drop i)))
 | 0, i, acc, him, ha => by
  rw [List.drop_of_length_le (by omega), show acc ++ mkB (encL []) = acc by apply ext_data; simp [encL, mkB_data]]
  exact Ev.step (f := fun _ => some acc) (fun k => by rw [impl_labelBytes.l0, if_neg (by omega)]) (Ev.now _)
 | m + 1, i, acc, him, ha => by
  have hi : i < parts.length := by omega
  have hs : ∀ v : Int, (strOfNums [v]).size = 1 := fun v => by rw [strOfNums_size]; rfl
  have hpi := hp _ (List.getElem_mem hi)
  have ih := lb_loop parts hp hl m (i + 1) (acc ++ (strOfNums [((parts[i].size : Int)) % 256] ++ parts[i])) (by omega) (by
   rw [ByteArray.size_append, ByteArray.size_append, hs]; omega)
  have e : (acc ++ (strOfNums [((parts[i].size : Int)) % 256] ++ parts[i])) ++ mkB (encL (parts.drop (i + 1))) = acc ++ mkB (encL (parts.drop i)) := by
   rw [List.drop_eq_getElem_cons hi, show ((parts[i].size : Int)) % 256 = (parts[i].size : Int) by omega]
   generalize parts.drop (i + 1) = D
   generalize parts[i] = x
   apply ext_data
   unfold encL strOfNums
   simp [mkB_data]
  rw [e] at ih
  refine Ev.step (fun k => ?_) ih
  show impl_labelBytes.l0 (k + 1) acc parts (parts.length : Int) (i : Int) = _
  conv => lhs; unfold impl_labelBytes.l0
  rw [if_pos (by omega), if_pos (by omega), if_pos (by omega), nb_rd _ _ hi, Option.bind_some, if_pos (by rw [hs]; omega), if_pos (by rw [ByteArray.size_append, hs]; omega), w64n (by omega)]
theorem lb_enc (s : ByteArray) (h : goodL s.data.toList = true) : Ev (fun k => impl_labelBytes.f k s) (mkB (encL ((labelsL s.data.toList).map mkB))) := by
 have hg := good_size h
 obtain ⟨g1, g2⟩ := good_all h
 have hss := size_len s
 have := lb_loop ((labelsL s.data.toList).map mkB) (by
  intro p hp
  obtain ⟨x, hx, rfl⟩ := List.mem_map.1 hp
  have := label_size (g2 x hx)
  rw [mkB_size]
  omega) (by rw [List.length_map]; omega) _ 0 (⟨#[]⟩ : ByteArray) (Nat.zero_add _) (by rw [List.length_map]; show 0 + _ < _; omega)
 rw [List.drop_zero, show (⟨#[]⟩ : ByteArray) ++ mkB (encL ((labelsL s.data.toList).map mkB)) = mkB (encL ((labelsL s.data.toList).map mkB)) by apply ext_data; simp [mkB_data]] at this
 refine Ev.congr (f := fun k => impl_labelBytes.l0 k (⟨#[]⟩ : ByteArray) ((labelsL s.data.toList).map mkB) (((labelsL s.data.toList).map mkB).length : Int) 0) (fun k => ?_) this
 unfold impl_labelBytes.f
 rw [labelsOf_eq s (by omega)]
 rfl
theorem byteAt_mkB (x : List UInt8) (i : Nat) (h : i < x.length) : byteAt (mkB x) i = (x[i]).toNat := by
 unfold byteAt
 rw [bt_mkB x i h]
 omega
theorem reads_enc : ∀ (ls : List ByteArray) (pre : List UInt8), (∀ x ∈ ls, isLabelL x.data.toList = true) → ∃ pl, Reads (mkB (pre ++ (encL ls ++ [0]))) pre.length 0 ls pl (pre.length + (encL ls).length + 1)
 | [], pre, h => by
  refine ⟨[], ?_⟩
  have hb : byteAt (mkB (pre ++ (encL [] ++ [0]))) pre.length = 0 := by
   rw [byteAt_mkB _ _ (by simp [encL])]
   simp [encL]
  exact .fin pre.length 0 (by rw [mkB_size]; simp [encL]) hb
 | x :: xs, pre, h => by
  have hx := h x (List.mem_cons_self ..)
  have hs1 := label_size hx
  have hs2 := label_pos hx
  rw [← size_len] at hs1 hs2
  have ee : encL (x :: xs) = UInt8.ofNat x.size :: (x.data.toList ++ encL xs) := by simp [encL]
  have el : pre ++ (encL (x :: xs) ++ [0]) = (pre ++ UInt8.ofNat x.size :: x.data.toList) ++ (encL xs ++ [0]) := by rw [ee]; simp
  obtain ⟨pl, ih⟩ := reads_enc xs (pre ++ UInt8.ofNat x.size :: x.data.toList) (fun y hy => h y (List.mem_cons_of_mem _ hy))
  have hlen : (pre ++ UInt8.ofNat x.size :: x.data.toList).length = pre.length + 1 + x.size := by
   rw [List.length_append, List.length_cons, ← size_len]; omega
  have hb : byteAt (mkB (pre ++ (encL (x :: xs) ++ [0]))) pre.length = x.size := by
   rw [byteAt_mkB _ _ (by rw [ee]; simp)]
   have : (pre ++ (encL (x :: xs) ++ [0]))[pre.length]'(by rw [ee]; simp) = UInt8.ofNat x.size := by
    simp [ee]
   rw [this, UInt8.toNat_ofNat']
   omega
  have hz : (mkB (pre ++ (encL (x :: xs) ++ [0]))).size = pre.length + 1 + x.size + (encL xs).length + 1 := by
   rw [mkB_size, el, List.length_append, hlen, List.length_append]
   simp
   omega
  have hraw : rawL (mkB (pre ++ (encL (x :: xs) ++ [0]))) pre.length = x.data.toList := by
   unfold rawL
   rw [hb, mkB_data, ee]
   have : (pre ++ (UInt8.ofNat x.size :: (x.data.toList ++ encL xs) ++ [0])).drop (pre.length + 1) = x.data.toList ++ (encL xs ++ [0]) := by
    rw [show pre ++ (UInt8.ofNat x.size :: (x.data.toList ++ encL xs) ++ [0]) = (pre ++ [UInt8.ofNat x.size]) ++ (x.data.toList ++ (encL xs ++ [0])) by simp]
    rw [List.drop_append_of_le_length (by simp), List.drop_of_length_le (by simp), List.nil_append]
   rw [this, List.take_append_of_le_length (by rw [← size_len]; omega), List.take_of_length_le (by rw [← size_len]; omega)]
  have hlow : mkB ((rawL (mkB (pre ++ (encL (x :: xs) ++ [0]))) pre.length).map lowB) = x := by
   rw [hraw, label_low hx, data_mkB]
  rw [← el, hlen] at ih
  have := Reads.lab pre.length 0 xs pl _ (by rw [hb]; omega) (by rw [hb]; omega) (by rw [hb, hz]; omega) (by rw [hb]; exact ih)
  rw [hlow] at this
  refine ⟨(pre.length : Int) :: pl, ?_⟩
  have e2 : pre.length + (encL (x :: xs)).length + 1 = pre.length + 1 + x.size + (encL xs).length + 1 := by
   rw [ee, List.length_cons, List.length_append, ← size_len]; omega
  rw [e2]
  exact this
theorem name_reads (s : ByteArray) (h : goodL s.data.toList = true) : Ev (fun k => impl_nameIn.f k (mkB (encL ((labelsL s.data.toList).map mkB) ++ [0]))) s := by
 obtain ⟨g1, g2⟩ := good_all h
 have hlab : ∀ x ∈ (labelsL s.data.toList).map mkB, isLabelL x.data.toList = true := by
  intro x hx
  obtain ⟨q, hq, rfl⟩ := List.mem_map.1 hx
  rw [mkB_data]
  exact g2 q hq
 obtain ⟨pl, hr⟩ := reads_enc ((labelsL s.data.toList).map mkB) [] hlab
 rw [List.nil_append] at hr
 obtain ⟨r, e1, _, e3⟩ := nb_both s h
 have hz := good_size h
 rw [← size_len] at hz
 have hsz : (mkB (encL ((labelsL s.data.toList).map mkB) ++ [0])).size ≤ 600 := by
  have := congrArg ByteArray.size (Ev.unique (lb_enc s h) e1)
  rw [mkB_size] at this
  rw [mkB_size, List.length_append, this, e3]
  simp only [List.length_cons, List.length_nil]
  split <;> omega
 have ht := reads_take (mkB (encL ((labelsL s.data.toList).map mkB) ++ [0])) hsz hr [] [] (-1) (by rw [List.length_map]; simpa using g1) (by simp)
 rw [List.nil_append, name_back h] at ht
 exact Ev.bind (f := fun _ bt292 => some bt292.1) ht (Ev.now _)
theorem j1_eq (k : Nat) (kind : Int) (b : ByteArray) (x : Bool) : spec_ReadData.j1 (k + 1) kind b noB kind x = if x = true then ((spec_l3Name.f k b).bind fun t => finS k kind b t) else (if kind = 6 then (if (b.size : Int) = 4 then ((spec_l3Read.f k b).bind fun n => ((spec_l1Num.f k n).bind fun t => finS k kind b t)) else finS k kind b noB) else (if kind = 15 then (if (b.size : Int) > 2 then (if 0 ≤ 2 then (if 2 ≤ (b.size : Int) then ((spec_l3Read.f k (b.extract 0 2)).bind fun n => ((spec_l1Num.f k n).bind fun t => (if t.size + 1 ≤ 9223372036854775807 then ((spec_l3Name.f k (b.extract 2 b.size)).bind fun u => (if (t ++ (⟨#[32]⟩ : ByteArray)).size + u.size ≤ 9223372036854775807 then finS k kind b ((t ++ (⟨#[32]⟩ : ByteArray)) ++ u) else none)) else none))) else none) else none) else finS k kind b noB) else (if kind = 16 then (if (b.size : Int) > 0 then (if 1 ≤ (b.size : Int) then finS k kind b (b.extract 1 b.size) else none) else finS k kind b noB) else finS k kind b noB))) := rfl
theorem preI_none {kind : Int} {b : ByteArray} (k1 : ¬ (kind = 1 ∧ b.size = 4)) (k2 : ¬ (kind = 2 ∨ kind = 5)) (k6 : ¬ (kind = 6 ∧ b.size = 4)) (k15 : ¬ (kind = 15 ∧ 2 < b.size)) (k16 : ¬ (kind = 16 ∧ 0 < b.size)) : Ev (fun k => preI k kind b) noB := by
 unfold preI
 simp only [if_neg k1, if_neg k2, if_neg k6, if_neg k15, if_neg k16]
 exact Ev.now _
theorem cut_at (s : ByteArray) (hs : s.size ≤ 1048576) (p r : List UInt8) (h1 : s.data.toList = p ++ 32 :: r) (h2 : ∀ x ∈ p, x ≠ 32) : strings_Cut.f s (⟨#[32]⟩ : ByteArray) = some (mkB p, mkB r, true) := by
 have hix : Lib.indexByte s.data.toList 32 = (p.length : Int) := by
  rcases place_or 32 s.data.toList with ⟨_, g2⟩ | ⟨p', r', g1, g2, g3⟩
  · exact absurd rfl (g2 32 (by rw [h1]; simp))
  · have e : p' :: splitL 32 r' = p :: splitL 32 r := by rw [← splitL_hit 32 p' r' g2, ← g1, h1, splitL_hit 32 p r h2]
    rw [g3, (List.cons.inj e).1]
 have hl : p.length + (r.length + 1) = s.size := by rw [size_len, h1]; simp
 unfold strings_Cut.f stringslite_Cut.f internal_stringslite_Index.f
 rw [if_pos (show (⟨#[32]⟩ : ByteArray).size = 1 from rfl)]
 simp only [Option.bind_some]
 rw [show List.headD (⟨#[32]⟩ : ByteArray).data.toList 0 = 32 from rfl, show (⟨#[32]⟩ : ByteArray).size = 1 from rfl, hix, show (((1 : Nat) : Int)) = 1 from rfl, w64n (by omega), if_pos (by omega), if_pos (by omega), if_pos (by omega), if_pos (by omega), if_pos (by omega), Int.toNat_natCast, Int.toNat_natCast, ext_mkB, ext_end]
 have e1 : (s.data.toList.drop 0).take (p.length - 0) = p := by rw [h1]; simp
 have e2 : s.data.toList.drop (p.length + 1) = r := by
  rw [h1, show p ++ 32 :: r = (p ++ [32]) ++ r by simp, List.drop_append_of_le_length (by simp), List.drop_of_length_le (by simp), List.nil_append]
 rw [e1, e2]
 rfl
theorem dig_no (u : Nat) : ∀ x ∈ Lib.decDigits u, x ≠ 32 := by
 intro x hx e
 have h := (digits_all u u (Nat.le_refl _)).1
 have := List.all_eq_true.mp h x hx
 rw [e] at this
 exact absurd this (by decide)
theorem cut_num (n : Int) (h0 : 0 ≤ n) (h1 : n < 9223372036854775807) (v : ByteArray) (hv : v.size ≤ 1000) : strings_Cut.f ((itB n ++ (⟨#[32]⟩ : ByteArray)) ++ v) (⟨#[32]⟩ : ByteArray) = some (itB n, v, true) := by
 have hz := itB_size n h0 h1
 have := cut_at ((itB n ++ (⟨#[32]⟩ : ByteArray)) ++ v) (by rw [ByteArray.size_append, ByteArray.size_append, show (⟨#[32]⟩ : ByteArray).size = 1 from rfl]; omega) (Lib.decDigits n.toNat) v.data.toList (by unfold itB; simp [mkB_data]) (dig_no _)
 rw [this, data_mkB]
 rfl
theorem read_both (kind : Int) (b : ByteArray) (hb : b.size ≤ 1048576) : ∃ q, Ev (fun k => spec_ReadData.f k kind b) q ∧ Ev (fun k => impl_ReadData.f k kind b) q := by
 by_cases h6 : (b.size : Int) > 600
 · refine ⟨badD, ?_, ?_⟩
   · unfold spec_ReadData.f
     simp only [if_pos h6]
     exact Ev.now _
   · unfold impl_ReadData.f
     simp only [if_pos (show 100 < b.size by omega)]
     exact Ev.now _
 have hb6 : b.size ≤ 600 := by omega
 have z0 : noB.size = 0 := rfl
 by_cases k1 : kind = 1
 · subst k1
   have hz := dots_size b b.size
   rw [List.take_of_length_le (by rw [parts_len]; omega)] at hz
   have S : ∀ q, Ev (fun k => finS k 1 b (mkB (joinL (partsI b)))) q → Ev (fun k => spec_ReadData.f k 1 b) q := fun q hq => by
    refine Ev.congr (fun k => ?_) (a_spec b hb6 hq b.size 0 (by omega))
    unfold spec_ReadData.f
    rw [if_neg h6, if_pos rfl]
    rfl
   by_cases c4 : b.size = 4
   · refine both_of 1 b _ _ (by omega) (by omega) S ?_ (.inl rfl)
     exact Ev.congr (fun k => by unfold preI; rw [if_pos ⟨rfl, c4⟩]) (Ev.now _)
   · refine both_of 1 b _ noB (by omega) (by omega) S (preI_none (fun e => c4 e.2) (by omega) (by omega) (by omega) (by omega)) ?_
     by_cases c0 : b.size = 0
     · exact .inl (noB_of (by omega))
     · exact .inr ⟨fun k r h e => by have := (data_size (by omega) h e).2.1 rfl; omega, fun k r h e => by have := (data_size (by omega) h e).2.1 rfl; omega⟩
 by_cases k2 : kind = 2 ∨ kind = 5
 · obtain ⟨u, v, g1, g2, g3, g4, g5⟩ := names_in b hb6
   refine both_of kind b u v (by omega) (by omega) (fun q hq => ?_) ?_ ?_
   · refine Ev.congr (f := fun k => spec_ReadData.j1 k kind b noB kind true) (fun k => ?_) (Ev.step (fun k => (j1_eq k kind b true).trans (if_pos rfl)) (Ev.bind g1 hq))
     unfold spec_ReadData.f
     rw [if_neg h6, if_neg k1]
     rcases k2 with rfl | rfl
     · rw [if_pos rfl]; rfl
     · rw [if_neg (by decide)]; rfl
   · unfold preI
     simp only [if_neg (show ¬ (kind = 1 ∧ b.size = 4) from fun e => k1 e.1), if_pos k2]
     exact g2
   · rcases g5 with rfl | ⟨rfl, n1, n2⟩
     · exact .inl rfl
     · exact .inr ⟨fun k r h e => absurd z0 ((data_size (by omega) h e).2.2.1 k2).2, fun k r h e => by have := (data_size (by omega) h e).2.2.1 k2; omega⟩
 have hs : ∀ k, spec_ReadData.f k kind b = spec_ReadData.j1 k kind b noB kind false := fun k => by
  unfold spec_ReadData.f
  rw [if_neg h6, if_neg k1, if_neg (by omega), show (kind == 5) = false from beq_eq_false_iff_ne.mpr (by omega)]
  rfl
 have hj : ∀ {g : Nat → Option (ByteArray × Bool)} {q : ByteArray × Bool}, (∀ k, spec_ReadData.j1 (k + 1) kind b noB kind false = g k) → Ev g q → Ev (fun k => spec_ReadData.f k kind b) q := fun h e => Ev.congr hs (Ev.step h e)
 have n1 : ¬ (kind = 1 ∧ b.size = 4) := fun e => k1 e.1
 by_cases k6 : kind = 6
 · by_cases c : b.size = 4
   · obtain ⟨n, a1, a2, a3, a4⟩ := read_num b (by omega)
     have hz := itB_size n a1 a2
     refine both_of kind b (itB n) (itB n) (by omega) (by omega) (fun q hq => ?_) ?_ (.inl rfl)
     · exact hj (fun k => by rw [j1_eq, if_neg (by decide), if_pos k6, if_pos (by omega)]) (Ev.bind a3 (Ev.bind (num_it n a1 a2) hq))
     · unfold preI
       simp only [if_neg n1, if_neg k2, if_pos (⟨k6, c⟩ : kind = 6 ∧ b.size = 4)]
       refine Ev.bind a4 ?_
       rw [itoa_it n a1 a2]
       exact Ev.now _
   · exact both_of kind b noB noB (by omega) (by omega) (fun q hq => hj (fun k => by rw [j1_eq, if_neg (by decide), if_pos k6, if_neg (by omega)]) hq) (preI_none n1 k2 (fun e => c e.2) (by omega) (by omega)) (.inl rfl)
 have n6 : ¬ (kind = 6 ∧ b.size = 4) := fun e => k6 e.1
 by_cases k15 : kind = 15
 · by_cases c : 2 < b.size
   · have hz2 : (b.extract 0 2).size = 2 := by rw [ByteArray.size_extract]; omega
     have hzr : (b.extract 2 b.size).size = b.size - 2 := by rw [ByteArray.size_extract]; omega
     obtain ⟨n, a1, a2, a3, a4⟩ := read_num (b.extract 0 2) (by omega)
     have hz := itB_size n a1 a2
     obtain ⟨u, v, g1, g2, g3, g4, g5⟩ := names_in (b.extract 2 b.size) (by omega)
     have e1 : ∀ x : ByteArray, ((itB n ++ (⟨#[32]⟩ : ByteArray)) ++ x).size = (itB n).size + 1 + x.size := fun x => by rw [ByteArray.size_append, ByteArray.size_append]; rfl
     have e2 : (itB n ++ (⟨#[32]⟩ : ByteArray)).size = (itB n).size + 1 := by rw [ByteArray.size_append]; rfl
     refine both_of kind b ((itB n ++ (⟨#[32]⟩ : ByteArray)) ++ u) ((itB n ++ (⟨#[32]⟩ : ByteArray)) ++ v) (by rw [e1]; omega) (by rw [e1]; omega) (fun q hq => ?_) ?_ ?_
     · refine hj (fun k => by rw [j1_eq, if_neg (by decide), if_neg k6, if_pos k15, if_pos (by omega), if_pos (by decide), if_pos (by omega)]) (Ev.bind a3 (Ev.bind (num_it n a1 a2) ?_))
       simp only [if_pos (show (itB n).size + 1 ≤ 9223372036854775807 by omega)]
       refine Ev.bind g1 ?_
       simp only [if_pos (show (itB n ++ (⟨#[32]⟩ : ByteArray)).size + u.size ≤ 9223372036854775807 by omega)]
       exact hq
     · unfold preI
       simp only [if_neg n1, if_neg k2, if_neg n6, if_pos (⟨k15, c⟩ : kind = 15 ∧ 2 < b.size)]
       refine Ev.bind a4 ?_
       rw [itoa_it n a1 a2]
       simp only [Option.bind_some]
       refine Ev.bind g2 ?_
       simp only [if_pos (show (itB n).size + v.size ≤ 1000000 by omega)]
       exact Ev.now _
     · rcases g5 with rfl | ⟨rfl, m1, m2⟩
       · exact .inl rfl
       · refine .inr ⟨fun k r h e => ?_, fun k r h e => ?_⟩
         · obtain ⟨x, f1, f2, f3⟩ := (data_size (by rw [e1]; omega) h e).2.2.2 k15
           rw [cut_num n a1 a2 _ (by omega)] at f1
           obtain rfl := Option.some.inj f1
           exact absurd z0 f3
         · obtain ⟨x, f1, f2, f3⟩ := (data_size (by rw [e1]; omega) h e).2.2.2 k15
           rw [cut_num n a1 a2 _ (by omega)] at f1
           obtain rfl := Option.some.inj f1
           show r.1.size ≠ b.size
           replace f2 : r.1.size = v.size + 4 := f2
           omega
   · exact both_of kind b noB noB (by omega) (by omega) (fun q hq => hj (fun k => by rw [j1_eq, if_neg (by decide), if_neg k6, if_pos k15, if_neg (by omega)]) hq) (preI_none n1 k2 n6 (fun e => c e.2) (by omega)) (.inl rfl)
 by_cases k16 : kind = 16
 · by_cases c : 0 < b.size
   · have hz : (b.extract 1 b.size).size ≤ b.size := by rw [ByteArray.size_extract]; omega
     refine both_of kind b (b.extract 1 b.size) (b.extract 1 b.size) (by omega) (by omega) (fun q hq => hj (fun k => by rw [j1_eq, if_neg (by decide), if_neg k6, if_neg k15, if_pos k16, if_pos (by omega), if_pos (by omega)]) hq) ?_ (.inl rfl)
     unfold preI
     simp only [if_neg n1, if_neg k2, if_neg n6, if_neg (show ¬ (kind = 15 ∧ 2 < b.size) from fun e => k15 e.1), if_pos (⟨k16, c⟩ : kind = 16 ∧ 0 < b.size)]
     exact Ev.now _
   · exact both_of kind b noB noB (by omega) (by omega) (fun q hq => hj (fun k => by rw [j1_eq, if_neg (by decide), if_neg k6, if_neg k15, if_pos k16, if_neg (by omega)]) hq) (preI_none n1 k2 n6 (fun e => k15 e.1) (fun e => c e.2)) (.inl rfl)
 · exact both_of kind b noB noB (by omega) (by omega) (fun q hq => hj (fun k => by rw [j1_eq, if_neg (by decide), if_neg k6, if_neg k15, if_neg k16]) hq) (preI_none n1 k2 n6 (fun e => k15 e.1) (fun e => k16 e.1)) (.inl rfl)
theorem can_len10 {l : List UInt8} (h : canL l = true) : l.length ≤ 10 := by
 unfold canL at h
 simp only [Bool.and_eq_true, decide_eq_true_eq] at h
 exact h.1.1.2
theorem end_zero (l : List UInt8) : mkB l ++ (⟨#[0]⟩ : ByteArray) = mkB (l ++ [0]) := by
 apply ext_data
 simp [mkB_data]
theorem lb_is {k : Nat} {s lb : ByteArray} (ht : impl_isTarget.f s = some true) (h : impl_labelBytes.f k s = some lb) : lb = mkB (encL ((labelsL s.data.toList).map mkB)) ∧ goodL s.data.toList = true := by
 have hT : targL s.data.toList = true := Option.some.inj ((target_impl s).symm.trans ht)
 have hg := targ_good hT
 have e : Ev (fun k => impl_labelBytes.f k s) lb := Ev.of (fun k => impl_labelBytes.mono _ _) h
 exact ⟨Ev.unique e (lb_enc s hg), hg⟩
theorem back_name {kind : Int} {d b : ByteArray} (hk2 : kind = 2 ∨ kind = 5) (hd : d.size ≤ 1048576) (h : Ev (fun k => impl_DataBytes.f k kind d) (b, true)) : Ev (fun k => impl_ReadData.f k kind b) (d, true) := by
 obtain ⟨k, hk⟩ := Ev.rounds h
 have hsz := (data_size hd hk rfl).1
 have k1 : ¬ kind = 1 := by omega
 unfold impl_DataBytes.f at hk
 rw [if_neg k1, if_pos hk2] at hk
 unfold dataNs at hk
 obtain ⟨t, ht, hk⟩ := Option.bind_eq_some_iff.mp hk
 cases t with
 | false =>
  rw [if_neg (by decide)] at hk
  cases (Prod.mk.inj (Option.some.inj hk)).2
 | true =>
  rw [if_pos rfl] at hk
  obtain ⟨lb, hlb, hk⟩ := Option.bind_eq_some_iff.mp hk
  have hz := lab_size ht hlb
  obtain ⟨e1, e2⟩ := lb_is ht hlb
  rw [if_pos (by omega), e1, end_zero] at hk
  obtain rfl := (Prod.mk.inj (Option.some.inj hk)).1
  refine back_of hsz h (Ev.congr (fun k => ?_) (name_reads d e2))
  unfold preI
  rw [if_neg (fun e => k1 e.1), if_pos hk2]
theorem preI_15 (k : Nat) (b : ByteArray) (h : 2 < b.size) : preI k 15 b = (impl_number.f k (b.extract 0 2)).bind fun n => (strconv_Itoa.f n).bind fun t => (impl_nameIn.f k (b.extract 2 b.size)).bind fun s => (if t.size + s.size ≤ 1000000 then some ((t ++ (⟨#[32]⟩ : ByteArray)) ++ s) else none) := by
 unfold preI
 rw [if_neg (by omega), if_neg (by omega), if_neg (by omega), if_pos ⟨rfl, h⟩]
theorem back_mail {d b : ByteArray} (hd : d.size ≤ 1048576) (h : Ev (fun k => impl_DataBytes.f k 15 d) (b, true)) : Ev (fun k => impl_ReadData.f k 15 b) (d, true) := by
 obtain ⟨k, hk⟩ := Ev.rounds h
 have hsz := (data_size hd hk rfl).1
 unfold impl_DataBytes.f at hk
 rw [if_neg (by decide), if_neg (by decide), if_neg (by decide), if_pos rfl] at hk
 unfold dataMx at hk
 rcases place_or 32 d.data.toList with ⟨h1, h2⟩ | ⟨p, r, h1, h2, h3⟩
 · have hcut : strings_Cut.f d (⟨#[32]⟩ : ByteArray) = some (d, (⟨#[]⟩ : ByteArray), false) := by
    unfold strings_Cut.f stringslite_Cut.f internal_stringslite_Index.f
    rw [if_pos (show (⟨#[32]⟩ : ByteArray).size = 1 from rfl)]
    simp only [Option.bind_some]
    rw [show List.headD (⟨#[32]⟩ : ByteArray).data.toList 0 = 32 from rfl, h1, if_neg (by omega)]
    rfl
   rw [hcut, Option.bind_some] at hk
   obtain ⟨bb, hbb, hk⟩ := Option.bind_eq_some_iff.mp hk
   by_cases c : bb.2 = true
   · rw [if_pos c, target_impl, Option.bind_some, if_neg (show ¬ targL (⟨#[]⟩ : ByteArray).data.toList = true by decide)] at hk
     cases (Prod.mk.inj (Option.some.inj hk)).2
   · rw [if_neg c] at hk
     cases (Prod.mk.inj (Option.some.inj hk)).2
 · have hpz : p.length + r.length + 1 = d.size := by rw [size_len, h1]; simp; omega
   rw [cut_at d hd p r h1 h2, Option.bind_some] at hk
   obtain ⟨v, hv1, hv2⟩ := number_eq (mkB p) 65535 (by rw [mkB_size]; omega) (by omega) (by omega)
   rw [mkB_data] at hv1 hv2
   rw [hv1, Option.bind_some] at hk
   by_cases hc : (canL p && decide ((valL p : Int) ≤ 65535)) = true
   · have hv := hv2 hc
     rw [if_pos hc] at hk
     obtain ⟨t, ht, hk⟩ := Option.bind_eq_some_iff.mp hk
     cases t with
     | false =>
      rw [if_neg (by decide)] at hk
      cases (Prod.mk.inj (Option.some.inj hk)).2
     | true =>
      rw [if_pos rfl] at hk
      obtain ⟨g, hg, hk⟩ := Option.bind_eq_some_iff.mp hk
      obtain ⟨lb, hlb, hk⟩ := Option.bind_eq_some_iff.mp hk
      have hz := lab_size ht hlb
      have hgz := (big_size hg).2.1 rfl
      obtain ⟨e1, e2⟩ := lb_is ht hlb
      have eg0 : Ev (fun k => impl_big.f k v 2) g := Ev.of (fun k => impl_big.mono _ _ _) hg
      have eg := Ev.unique eg0 (big2 v)
      rw [if_pos (by omega), if_pos (by omega)] at hk
      obtain rfl := (Prod.mk.inj (Option.some.inj hk)).1
      rw [Bool.and_eq_true, decide_eq_true_eq] at hc
      have hbz : ((g ++ lb) ++ (⟨#[0]⟩ : ByteArray)).size = 2 + lb.size + 1 := by rw [ByteArray.size_append, ByteArray.size_append, hgz]; rfl
      have hgl : g.data.toList.length = 2 := by rw [← size_len]; exact hgz
      have hdt : ((g ++ lb) ++ (⟨#[0]⟩ : ByteArray)).data.toList = g.data.toList ++ (lb.data.toList ++ [0]) := by simp
      have x1 : ((g ++ lb) ++ (⟨#[0]⟩ : ByteArray)).extract 0 2 = g := by
       apply ext_data
       rw [ext_mkB, mkB_data, hdt, List.drop_zero, List.take_append_of_le_length (by omega), List.take_of_length_le (by omega)]
      have x2 : ((g ++ lb) ++ (⟨#[0]⟩ : ByteArray)).extract 2 ((g ++ lb) ++ (⟨#[0]⟩ : ByteArray)).size = mkB (encL ((labelsL (mkB r).data.toList).map mkB) ++ [0]) := by
       apply ext_data
       rw [ext_end, mkB_data, hdt, List.drop_append_of_le_length (by omega), List.drop_of_length_le (by omega), List.nil_append, e1]
       simp only [mkB_data]
      have hn := big2_val v (by omega) (by omega)
      rw [← eg] at hn
      have hvt : itB v = mkB p := by
       unfold itB
       rw [hv, Int.toNat_natCast, dig_back hc.1]
      refine back_of hsz h (Ev.congr (fun k => (preI_15 k _ (by omega)).trans (by rw [x1, x2])) (Ev.bind hn ?_))
      rw [itoa_it v (by omega) (by omega)]
      simp only [Option.bind_some]
      refine Ev.bind (name_reads (mkB r) e2) ?_
      rw [hvt]
      simp only [if_pos (show (mkB p).size + (mkB r).size ≤ 1000000 by have h1 := hz.2.1; replace h1 : (mkB r).size ≤ 60 := h1; have h2 : p.length ≤ 10 := can_len10 hc.1; rw [mkB_size]; omega)]
      have : (mkB p ++ (⟨#[32]⟩ : ByteArray)) ++ mkB r = d := by
       apply ext_data
       rw [h1]
       simp [mkB_data]
      rw [this]
      exact Ev.now _
   · rw [if_neg hc] at hk
     cases (Prod.mk.inj (Option.some.inj hk)).2
theorem data_back {kind : Int} {d b : ByteArray} (hd : d.size ≤ 1048576) (h : Ev (fun k => impl_DataBytes.f k kind d) (b, true)) : Ev (fun k => impl_ReadData.f k kind b) (d, true) := by
 by_cases k1 : kind = 1
 · subst k1; exact back_addr hd h
 by_cases k2 : kind = 2 ∨ kind = 5
 · exact back_name k2 hd h
 by_cases k6 : kind = 6
 · subst k6; exact back_serial hd h
 by_cases k15 : kind = 15
 · subst k15; exact back_mail hd h
 by_cases k16 : kind = 16
 · subst k16; exact back_text hd h
 obtain ⟨k, hk⟩ := Ev.rounds h
 unfold impl_DataBytes.f at hk
 rw [if_neg k1, if_neg k2, if_neg k6, if_neg k15, if_neg k16] at hk
 cases (Prod.mk.inj (Option.some.inj hk)).2
end Go.Proofs.YtiegkjimpclmaaaGreatDoor.Pure
