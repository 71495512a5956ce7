/- FnRecords: part 27 of 29 of my texts for this claim, joined; the theorem stands in the last. Conditions: none beyond the statement's. -/
import Derived.Test.YtiegkjimpclmaaaGreatDoorMFnRecordsx24
import Derived.Test.YtiegkjimpclmaaaGreatDoorMFnRecordsx23
import Derived.Test.YtiegkjimpclmaaaGreatDoorMFnRecordsx19
namespace Go.Proofs.YtiegkjimpclmaaaGreatDoor.Pure
open Go.RowKit Go.Proofs.YtiegkjimpclmaaaGreatDoor.P Go.Proofs.YtiegkjimpclmaaaGreatDoorW.PrintWords Go.Proofs.YtiegkjimpclmaaaGreatDoorW.PrintLast
set_option linter.unusedVariables false
set_option linter.unusedSimpArgs false
set_option linter.unusedSectionVars false
inductive Reads (t : ByteArray) : Nat → Nat → List ByteArray → List Int → Nat → Prop
 | fin (a le : Nat) (h : a < t.size) (h0 : byteAt t a = 0) : Reads t a le [] [] (a + 1)
 | ptr (a le : Nat) (ls : List ByteArray) (pl : List Int) (en : Nat) (h : a + 1 < t.size) (h0 : 192 ≤ byteAt t a) (hp : ptrOf t a < le) (hr : Reads t (ptrOf t a) (ptrOf t a) ls pl en) : Reads t a le ls [] (a + 2)
 | lab (a le : Nat) (ls : List ByteArray) (pl : List Int) (en : Nat) (h0 : 0 < byteAt t a) (h1 : byteAt t a < 64) (h2 : a + 1 + byteAt t a ≤ t.size) (hr : Reads t (a + 1 + byteAt t a) le ls pl en) :
  Reads t a le (mkB ((rawL t a).map lowB) :: ls) ((a : Int) :: pl) en
theorem Reads.more {t : ByteArray} {a le : Nat} {ls : List ByteArray} {pl : List Int} {en : Nat} (h : Reads t a le ls pl en) : ∀ le', le ≤ le' → Reads t a le' ls pl en := by
 induction h with
 | fin a le h h0 => exact fun le' _ => .fin a le' h h0
 | ptr a le ls pl en h h0 hp hr ih => exact fun le' hl => .ptr a le' ls pl en h h0 (by omega) hr
 | lab a le ls pl en h0 h1 h2 hr ih => exact fun le' hl => .lab a le' ls pl en h0 h1 h2 (ih le' hl)
theorem Reads.bound {t : ByteArray} {a le : Nat} {ls : List ByteArray} {pl : List Int} {en : Nat} (h : Reads t a le ls pl en) : a < en ∧ en ≤ t.size ∧ (∀ x ∈ pl, (a : Int) ≤ x ∧ x < (en : Int)) ∧ pl.length ≤ ls.length ∧ pl.Pairwise (· < ·) := by
 induction h with
 | fin a le h h0 => exact ⟨by omega, by omega, (fun x hx => by cases hx), Nat.le_refl _, .nil⟩
 | ptr a le ls pl en h h0 hp hr ih => exact ⟨by omega, by omega, (fun x hx => by cases hx), Nat.zero_le _, .nil⟩
 | lab a le ls pl en h0 h1 h2 hr ih =>
  obtain ⟨i1, i2, i3, i4, i5⟩ := ih
  refine ⟨by omega, i2, fun x hx => ?_, by simpa using i4, List.pairwise_cons.2 ⟨fun x hx => by have := i3 x hx; omega, i5⟩⟩
  rcases List.mem_cons.1 hx with rfl | hx
  · omega
  · have := i3 x hx; omega
theorem Reads.place {t : ByteArray} {a le : Nat} {ls : List ByteArray} {pl : List Int} {en : Nat} (h : Reads t a le ls pl en) : ∀ x ∈ pl, ∃ ls1 ls2 pl', ls = ls1 ++ ls2 ∧ Reads t x.toNat le ls2 pl' en := by
 induction h with
 | fin a le h h0 => exact fun x hx => by cases hx
 | ptr a le ls pl en h h0 hp hr ih => exact fun x hx => by cases hx
 | lab a le ls pl en h0 h1 h2 hr ih =>
  intro x hx
  rcases List.mem_cons.1 hx with rfl | hx
  · exact ⟨[], _, _, rfl, .lab a le ls pl en h0 h1 h2 hr⟩
  · obtain ⟨l1, l2, p', e, h'⟩ := ih x hx
    exact ⟨mkB ((rawL t a).map lowB) :: l1, l2, p', by rw [e]; rfl, h'⟩
section
variable (s : ByteArray) (hs : s.size ≤ 600)
include hs
theorem reads_take {a le : Nat} {ls : List ByteArray} {pl : List Int} {en : Nat} (h : Reads s a le ls pl en) : ∀ (L : List ByteArray) (p : List Int) (e : Int), L.length + ls.length ≤ 8 → p.length ≤ L.length →
 Ev (fun k => impl_takeName.l0 k s (a : Int) L p (le : Int) e) ((nameR (L ++ ls)).1, (if e < 0 then p ++ pl else p), (if e < 0 then (en : Int) else e), (nameR (L ++ ls)).2) := by
 induction h with
 | fin a le h h0 =>
  intro L p e hL hp
  have hi := impl_end s hs 0 a L p le e h (by simp at hL; omega) h0
  rw [List.append_nil, List.append_nil, ite_self]
  exact Ev.of (fun k => (impl_takeName.mono_l k).1 _ _ _ _ _ _) hi
 | ptr a le ls pl en h h0 hp' hr ih =>
  intro L p e hL hp
  have := ih L p (endOf e (a + 2)) hL hp
  have he : ¬ endOf e (a + 2) < 0 := by unfold endOf; split <;> omega
  rw [if_neg he, if_neg he] at this
  rw [List.append_nil, ite_self]
  have e2 : endOf e (a + 2) = if e < 0 then ((a + 2 : Nat) : Int) else e := rfl
  rw [e2] at this
  exact Ev.step (fun k => rfl) (Ev.step (g := fun k => impl_takeName.l0 (k + 1) s (a : Int) L p (le : Int) e) (fun k => (impl_ptr s hs k a L p le e (by omega) (by omega) h0 h).trans (if_neg (by omega))) this)
 | lab a le ls pl en h0 h1 h2 hr ih =>
  intro L p e hL hp
  rw [List.length_cons] at hL
  have := ih (L ++ [mkB ((rawL s a).map lowB)]) (plc e p a) e (by simp; omega) (by unfold plc; split <;> simp <;> omega)
  have ep : (if e < 0 then plc e p a ++ pl else plc e p a) = if e < 0 then p ++ (a : Int) :: pl else p := by
   unfold plc
   split
   · simp
   · rfl
  rw [ep, List.append_assoc] at this
  exact Ev.step (fun k => rfl) (Ev.step (fun k => rfl) (Ev.step (g := fun k => impl_takeName.l0 (k + 2) s (a : Int) L p (le : Int) e) (fun k => impl_lab s hs k a L p le e (by omega) (by omega) (by omega) h0 h1 h2) this))
theorem take_reads : ∀ (n a : Nat) (L : List ByteArray) (p : List Int) (le : Nat) (e : Int), le * 10 + (9 - L.length) ≤ n → L.length ≤ 9 → p.length ≤ L.length →
 (∃ ls pl en, Reads s a le ls pl en ∧ L.length + ls.length ≤ 8) ∨ ∃ r, Ev (fun k => impl_takeName.l0 k s (a : Int) L p (le : Int) e) r ∧ r.1 = (⟨#[]⟩ : ByteArray) ∧ r.2.2.2 = false
 | n, a, L, p, le, e, hn, hL, hp => by
  by_cases ho : s.size ≤ a ∨ 8 < L.length
  · exact .inr ⟨failI, Ev.of (fun k => (impl_takeName.mono_l k).1 _ _ _ _ _ _) (impl_out s hs 0 a L p le e ho), rfl, rfl⟩
  · have h1 : a < s.size := by omega
    have h2 : L.length ≤ 8 := by omega
    by_cases v0 : byteAt s a = 0
    · exact .inl ⟨[], [], a + 1, .fin a le h1 v0, by simpa using h2⟩
    · by_cases v1 : 192 ≤ byteAt s a
      · by_cases h3 : a + 1 < s.size
        · by_cases hle : ((ptrOf s a : Nat) : Int) ≥ (le : Int)
          · exact .inr ⟨failI, Ev.of (fun k => (impl_takeName.mono_l k).1 _ _ _ _ _ _) ((impl_ptr s hs 0 a L p le e h1 h2 v1 h3).trans (if_pos hle)), rfl, rfl⟩
          · rcases take_reads (n - 10) (ptrOf s a) L p (ptrOf s a) (endOf e (a + 2)) (by omega) hL hp with ⟨ls, pl, en, g1, g2⟩ | ⟨r, g1, g2⟩
            · exact .inl ⟨ls, [], a + 2, .ptr a le ls pl en h3 v1 (by omega) g1, g2⟩
            · exact .inr ⟨r, Ev.step (fun k => rfl) (Ev.step (g := fun k => impl_takeName.l0 (k + 1) s (a : Int) L p (le : Int) e) (fun k => (impl_ptr s hs k a L p le e h1 h2 v1 h3).trans (if_neg hle)) g1), g2⟩
        · exact .inr ⟨failI, Ev.of (fun k => (impl_takeName.mono_l k).1 _ _ _ _ _ _) (impl_ptr_out s hs 0 a L p le e h1 h2 v1 (by omega)), rfl, rfl⟩
      · by_cases h3 : 64 ≤ byteAt s a ∨ s.size < a + 1 + byteAt s a
        · exact .inr ⟨failI, Ev.of (fun k => (impl_takeName.mono_l k).1 _ _ _ _ _ _) (impl_lab_out s hs 0 a L p le e h1 h2 (by omega) (by omega) h3), rfl, rfl⟩
        · rcases take_reads (n - 1) (a + 1 + byteAt s a) (L ++ [mkB ((rawL s a).map lowB)]) (plc e p a) le e (by simp; omega) (by simp; omega) (by unfold plc; split <;> simp <;> omega) with ⟨ls, pl, en, g1, g2⟩ | ⟨r, g1, g2⟩
          · exact .inl ⟨_, _, _, .lab a le ls pl en (by omega) (by omega) (by omega) g1, by simp at g2 ⊢; omega⟩
          · exact .inr ⟨r, Ev.step (fun k => rfl) (Ev.step (fun k => rfl) (Ev.step (g := fun k => impl_takeName.l0 (k + 2) s (a : Int) L p (le : Int) e) (fun k => impl_lab s hs k a L p le e h1 h2 (by omega) (by omega) (by omega) (by omega)) g1)), g2⟩
 termination_by n => n
 decreasing_by all_goals omega
theorem taken {k a : Nat} {t : ByteArray × List Int × Int × Bool} (h : impl_takeName.f k s (a : Int) = some t) (ht : t.2.2.2 = true) : ∃ ls pl en, Reads s a a ls pl en ∧ ls.length ≤ 8 ∧ nameR ls = (t.1, true) ∧ t.2.1 = pl ∧ t.2.2.1 = (en : Int) := by
 have hE : Ev (fun k => impl_takeName.l0 k s (a : Int) [] [] (a : Int) (-1)) t := Ev.of (fun k => (impl_takeName.mono_l k).1 _ _ _ _ _ _) (k := k) h
 rcases take_reads s hs (a * 10 + 9) a [] [] a (-1) (by simp) (by simp) (by simp) with ⟨ls, pl, en, g1, g2⟩ | ⟨r, g1, g2⟩
 · have g3 := reads_take s hs g1 [] [] (-1) g2 (by simp)
   have e := Ev.unique hE g3
   rw [if_pos (by decide), if_pos (by decide), List.nil_append, List.nil_append] at e
   refine ⟨ls, pl, en, g1, by simpa using g2, ?_, by rw [e], by rw [e]⟩
   rw [e] at ht ⊢
   exact Prod.ext rfl ht
 · rw [Ev.unique hE g1] at ht
   rw [ht] at g2
   cases g2.2
theorem take_fail {t : ByteArray × List Int × Int × Bool} (h : Ev (fun k => impl_takeName.f k s 0) t) (ht : t.2.2.2 = false) : t.1 = (⟨#[]⟩ : ByteArray) := by
 have hE : Ev (fun k => impl_takeName.l0 k s ((0 : Nat) : Int) [] [] ((0 : Nat) : Int) (-1)) t := h
 rcases take_reads s hs (0 * 10 + 9) 0 [] [] 0 (-1) (by simp) (by simp) (by simp) with ⟨ls, pl, en, g1, g2⟩ | ⟨r, g1, g2⟩
 · have g3 := reads_take s hs g1 [] [] (-1) g2 (by simp)
   have e := Ev.unique hE g3
   rw [List.nil_append] at e
   rw [e] at ht ⊢
   show (nameR ls).1 = _
   replace ht : (nameR ls).2 = false := ht
   unfold nameR at ht ⊢
   split
   · rename_i c
     rw [if_pos c] at ht
     split
     · rename_i c2
       rw [if_pos c2] at ht
       cases ht
     · rfl
   · rfl
 · rw [Ev.unique hE g1]
   exact g2.1
end
theorem label_low {x : List UInt8} (h : isLabelL x = true) : x.map lowB = x := by
 have : ∀ y ∈ x, lowB y = y := by
  intro y hy
  unfold isLabelL at h
  simp only [Bool.or_eq_true, Bool.and_eq_true, beq_iff_eq, List.all_eq_true] at h
  rcases h with h | h
  · rw [h] at hy
    rw [List.mem_singleton.1 hy]
    decide
  · have hy := h.2 y hy
    unfold labelByte at hy
    simp only [Bool.or_eq_true, decide_eq_true_eq, beq_iff_eq] at hy
    unfold lowB
    rw [if_neg]
    rintro ⟨h1, h2⟩
    rcases hy with ((hy | hy) | rfl) | rfl
    · omega
    · omega
    · revert h1; decide
    · revert h2; decide
 rw [List.map_congr_left this, List.map_id']
theorem joinL_ne {ls : List ByteArray} (hne : ls ≠ []) (h : ∀ x ∈ ls, isLabelL x.data.toList = true) : splitL 46 (joinL ls) = ls.map (·.data.toList) := by
 unfold joinL
 refine split_join _ (by simpa using hne) fun x hx => ?_
 obtain ⟨z, hz, rfl⟩ := List.mem_map.1 hx
 exact label_dot (h z hz)
theorem label_pos {x : List UInt8} (h : isLabelL x = true) : 1 ≤ x.length := by
 unfold isLabelL at h
 simp only [Bool.or_eq_true, Bool.and_eq_true, beq_iff_eq, decide_eq_true_eq] at h
 rcases h with h | h
 · rw [h]; simp
 · exact h.1.1
theorem labels_back {ls : List ByteArray} {s : ByteArray} (h : nameR ls = (s, true)) : goodL s.data.toList = true ∧ ls = (labelsL s.data.toList).map mkB := by
 unfold nameR at h
 by_cases h1 : (decide (ls.length ≤ 8) && ls.all fun x => isLabelL x.data.toList) = true
 · rw [if_pos h1] at h
   by_cases h2 : goodL (joinL ls) = true
   · rw [if_pos h2] at h
     obtain ⟨rfl, _⟩ := Prod.mk.inj h
     rw [mkB_data]
     refine ⟨h2, ?_⟩
     simp only [Bool.and_eq_true, List.all_eq_true] at h1
     cases ls with
     | nil => rfl
     | cons x r =>
      have hs := joinL_ne (ls := x :: r) (by simp) h1.2
      have hne : joinL (x :: r) ≠ [] := by
       intro e
       have h3 := congrArg List.length e
       unfold joinL at h3
       rw [List.map_cons, Lib.join_cons, List.length_append] at h3
       have := label_pos (h1.2 x List.mem_cons_self)
       rw [List.length_nil] at h3
       omega
      unfold labelsL
      rw [if_neg hne, hs, List.map_map]
      have : (mkB ∘ fun x : ByteArray => x.data.toList) = id := by funext z; exact data_mkB z
      rw [this, List.map_id]
   · rw [if_neg h2] at h
     cases (Prod.mk.inj h).2
 · rw [if_neg h1] at h
   cases (Prod.mk.inj h).2
theorem reads_len {t : ByteArray} {a le : Nat} {ls : List ByteArray} {pl : List Int} {en : Nat} (h : Reads t a le ls pl en) : le = 0 → en = a + (ls.map fun x => 1 + x.size).sum + 1 := by
 induction h with
 | fin a le h h0 => intro _; simp
 | ptr a le ls pl en h h0 hp hr ih => intro e; omega
 | lab a le ls pl en h0 h1 h2 hr ih =>
  intro e
  rw [ih e, List.map_cons, List.sum_cons]
  have : (mkB ((rawL t a).map lowB)).size = byteAt t a := by
   rw [mkB_size, List.length_map]
   unfold rawL
   rw [List.length_take, List.length_drop, ← size_len]
   omega
  omega
end Go.Proofs.YtiegkjimpclmaaaGreatDoor.Pure
namespace Go.Proofs.YtiegkjimpclmaaaGreatDoor.P
open Go.RowKit Go.Proofs.YtiegkjimpclmaaaGreatDoorW.PrintWords Go.Proofs.YtiegkjimpclmaaaGreatDoorW.PrintLast Go.Proofs.YtiegkjimpclmaaaGreatDoorW.PrintMore
attribute [local go_sem] max2_int min2_int max_two min_two max_three min_three max_four min_four
set_option linter.unusedVariables false
set_option linter.unusedSimpArgs false
def laws_FnExactReadData.f (k : Nat) (a0 : Int) (a1 : ByteArray) : Option (Bool) := if (a1.size : Int) > 1048576 then (some true) else ((spec_ReadData.f k a0 a1).bind fun bt282 => ((impl_ReadData.f k a0 a1).bind fun bt284 => (if bt284.1.toList = bt282.1.toList then (if (bt284.2 != bt282.2) = true then (some false) else (some true)) else (some false))))
def laws_FnExactReadData.Pure : Prop := ∀ (a0 : Int) (a1 : ByteArray), (Lit.int .i64 a0).wf = true → a1.size ≤ 140737488351232 → ∃ k, laws_FnExactReadData.f k a0 a1 = some true
end Go.Proofs.YtiegkjimpclmaaaGreatDoor.P
namespace Go.Proofs.YtiegkjimpclmaaaGreatDoor.Pure
open Go.RowKit Go.Proofs.YtiegkjimpclmaaaGreatDoor.P Go.Proofs.YtiegkjimpclmaaaGreatDoorW.PrintWords Go.Proofs.YtiegkjimpclmaaaGreatDoorW.PrintLast Go.Proofs.YtiegkjimpclmaaaGreatDoorW.PrintMore
set_option linter.unusedVariables false
set_option linter.unusedSimpArgs false
def toldB (a : ByteArray) : ByteArray := if a.toList = ([] : List UInt8) then (⟨#[46]⟩ : ByteArray) else a
def rtext (a : ByteArray) (b c : Int) (d : ByteArray) : ByteArray := (((((toldB a ++ (⟨#[32]⟩ : ByteArray)) ++ itB c) ++ (⟨#[32]⟩ : ByteArray)) ++ itB b) ++ (⟨#[32]⟩ : ByteArray)) ++ d
theorem told_size (a : ByteArray) : (toldB a).size ≤ a.size + 1 := by
 unfold toldB
 split
 · show 1 ≤ a.size + 1; omega
 · omega
theorem rtext_impl (a : ByteArray) (b c : Int) (d : ByteArray) (ha : a.size ≤ 1048576) (hd : d.size ≤ 1048576) (hb : 0 ≤ b ∧ b < 9223372036854775807) (hc : 0 ≤ c ∧ c < 9223372036854775807) : impl_recordText.f a b c d = some (rtext a b c d) := by
 have hi : ∀ n : Int, 0 ≤ n ∧ n < 9223372036854775807 → strconv_Itoa.f n = some (itB n) := fun n hn => by
  unfold strconv_Itoa.f itB Lib.itoa
  rw [if_pos (by omega), if_neg (by omega)]
  rfl
 have t1 := told_size a
 have t2 := itB_size b hb.1 hb.2
 have t3 := itB_size c hc.1 hc.2
 unfold impl_recordText.f impl_told.f
 rw [show (if a.toList = ([] : List UInt8) then some (⟨#[46]⟩ : ByteArray) else some a) = some (toldB a) by unfold toldB; split <;> rfl, hi c hc, hi b hb]
 simp only [Option.bind_some, ByteArray.size_append, sp1]
 rw [if_pos (by omega), if_pos (by omega), if_pos (by omega), if_pos (by omega), if_pos (by omega), if_pos (by omega)]
 rfl
theorem rtext_spec (a : ByteArray) (b c : Int) (d : ByteArray) (ha : a.size ≤ 1048576) (hd : d.size ≤ 1048576) (hb : 0 ≤ b ∧ b < 9223372036854775807) (hc : 0 ≤ c ∧ c < 9223372036854775807) : Ev (fun k => spec_l3Text.f k a b c d) (rtext a b c d) := by
 have hi : ∀ n : Int, 0 ≤ n ∧ n < 9223372036854775807 → Ev (fun k => spec_l1Num.f k n) (itB n) := fun n hn => by
  have := num_ev n.toNat n.toNat (Nat.le_refl _) (by omega)
  rwa [show ((n.toNat : Nat) : Int) = n by omega] at this
 have t1 := told_size a
 have t2 := itB_size b hb.1 hb.2
 have t3 := itB_size c hc.1 hc.2
 have key : ∀ x : ByteArray, x.size ≤ 1048577 → Ev (fun k => if x.size + 1 ≤ 9223372036854775807 then ((spec_l1Num.f k c).bind fun t292 => (if (x ++ (⟨#[32]⟩ : ByteArray)).size + t292.size ≤ 9223372036854775807 then (if ((x ++ (⟨#[32]⟩ : ByteArray)) ++ t292).size + 1 ≤ 9223372036854775807 then ((spec_l1Num.f k b).bind fun t293 => (if (((x ++ (⟨#[32]⟩ : ByteArray)) ++ t292) ++ (⟨#[32]⟩ : ByteArray)).size + t293.size ≤ 9223372036854775807 then (if ((((x ++ (⟨#[32]⟩ : ByteArray)) ++ t292) ++ (⟨#[32]⟩ : ByteArray)) ++ t293).size + 1 ≤ 9223372036854775807 then (if (((((x ++ (⟨#[32]⟩ : ByteArray)) ++ t292) ++ (⟨#[32]⟩ : ByteArray)) ++ t293) ++ (⟨#[32]⟩ : ByteArray)).size + d.size ≤ 9223372036854775807 then (some ((((((x ++ (⟨#[32]⟩ : ByteArray)) ++ t292) ++ (⟨#[32]⟩ : ByteArray)) ++ t293) ++ (⟨#[32]⟩ : ByteArray)) ++ d)) else (none)) else (none)) else (none))) else (none)) else (none))) else (none)) ((((((x ++ (⟨#[32]⟩ : ByteArray)) ++ itB c) ++ (⟨#[32]⟩ : ByteArray)) ++ itB b) ++ (⟨#[32]⟩ : ByteArray)) ++ d) := by
  intro x hx
  simp only [if_pos (show x.size + 1 ≤ 9223372036854775807 by omega)]
  refine Ev.bind (hi c hc) ?_
  simp only [ByteArray.size_append, sp1, if_pos (show x.size + 1 + (itB c).size ≤ 9223372036854775807 by omega), if_pos (show x.size + 1 + (itB c).size + 1 ≤ 9223372036854775807 by omega)]
  refine Ev.bind (hi b hb) ?_
  simp only [if_pos (show x.size + 1 + (itB c).size + 1 + (itB b).size ≤ 9223372036854775807 by omega), if_pos (show x.size + 1 + (itB c).size + 1 + (itB b).size + 1 ≤ 9223372036854775807 by omega), if_pos (show x.size + 1 + (itB c).size + 1 + (itB b).size + 1 + d.size ≤ 9223372036854775807 by omega)]
  exact Ev.now _
 by_cases h : a.toList = ([] : List UInt8)
 · refine Ev.congr (fun k => ?_) (key (toldB a) (by omega))
   unfold spec_l3Text.f toldB
   rw [if_pos h, if_pos h]
   rfl
 · refine Ev.congr (fun k => ?_) (key (toldB a) (by omega))
   unfold spec_l3Text.f toldB
   rw [if_neg h, if_neg h]
theorem text_both (a : ByteArray) (b c : Int) (d : ByteArray) (ha : a.size ≤ 1048576) (hd : d.size ≤ 1048576) : ∃ g, Ev (fun k => spec_GoodRecord.f k a b c d) g ∧ Ev (fun k => impl_GoodRecord.f k a b c d) g ∧ (g = true → Ev (fun k => spec_l3Text.f k a b c d) (rtext a b c d) ∧ impl_recordText.f a b c d = some (rtext a b c d)) := by
 obtain ⟨r, q, r1, r2, _⟩ := goodrec_both a b c d ha hd
 refine ⟨r, r1, r2, fun hg => ?_⟩
 subst hg
 obtain ⟨_, _, hb, hc, _⟩ := good_parts a b c d ha hd r2
 exact ⟨rtext_spec a b c d ha hd (by omega) (by omega), rtext_impl a b c d ha hd (by omega) (by omega)⟩
def cmpI (a b : Int) : Int := if a < b then -1 else (if b < a then 1 else 0)
theorem cmpI_eq (a b : Int) : cmp_Compare_int.f a b = some (cmpI a b) := by
 unfold cmp_Compare_int.f cmp_isNaN_int.f cmpI
 simp only [bne_self_eq_false, Option.bind_some, Bool.false_eq_true, if_false]
 by_cases h : a < b
 · rw [if_pos h, if_pos h]
 · rw [if_neg h, if_neg h]
   by_cases h2 : b < a
   · rw [if_pos h2, if_pos h2]
   · rw [if_neg h2, if_neg h2]
def or2 (a b : Int) : Int := if a = 0 then b else a
theorem or_two (a b : Int) : Ev (fun k => cmp_Or_int.f k [a, b]) (or2 a b) := by
 refine Ev.of (fun k => cmp_Or_int.mono _ _) (k := 3) ?_
 show cmp_Or_int.f 3 [a, b] = _
 unfold or2
 by_cases h : a = 0
 · by_cases h2 : b = 0
   · simp [cmp_Or_int.f, cmp_Or_int.l0, rd, wrap64, h, h2]
   · simp [cmp_Or_int.f, cmp_Or_int.l0, rd, wrap64, h, h2]
 · simp [cmp_Or_int.f, cmp_Or_int.l0, rd, wrap64, h]
theorem or_three (a b c : Int) : Ev (fun k => cmp_Or_int.f k [a, b, c]) (or2 a (or2 b c)) := by
 refine Ev.of (fun k => cmp_Or_int.mono _ _) (k := 4) ?_
 show cmp_Or_int.f 4 [a, b, c] = _
 unfold or2
 by_cases h : a = 0
 · by_cases h2 : b = 0
   · by_cases h3 : c = 0
     · simp [cmp_Or_int.f, cmp_Or_int.l0, rd, wrap64, h, h2, h3]
     · simp [cmp_Or_int.f, cmp_Or_int.l0, rd, wrap64, h, h2, h3]
   · simp [cmp_Or_int.f, cmp_Or_int.l0, rd, wrap64, h, h2]
 · simp [cmp_Or_int.f, cmp_Or_int.l0, rd, wrap64, h]
theorem cmpB_eq : ∀ x y : List UInt8, Lib.compareBytes x y = if x = y then 0 else (if Op.bytesLess x y = true then -1 else 1)
 | [], [] => by simp [Lib.compareBytes]
 | [], _ :: _ => by simp [Lib.compareBytes, Op.bytesLess]
 | _ :: _, [] => by simp [Lib.compareBytes, Op.bytesLess]
 | a :: x, b :: y => by
  have ih := cmpB_eq x y
  unfold Lib.compareBytes Op.bytesLess
  by_cases h1 : a < b
  · have h3 : ¬ a = b := by rintro rfl; rw [UInt8.lt_iff_toNat_lt] at h1; omega
    simp [h1, h3]
  · by_cases h2 : b < a
    · have h3 : ¬ a = b := by rintro rfl; rw [UInt8.lt_iff_toNat_lt] at h2; omega
      simp [h1, h2, h3]
    · have h3 : a = b := by rw [UInt8.lt_iff_toNat_lt] at h1 h2; apply UInt8.toNat_inj.1; omega
      subst h3
      simp [h1, ih]
def ordR (a : List UInt8) (b c : Int) (x : List UInt8) (a' : List UInt8) (b' c' : Int) (x' : List UInt8) : Int := or2 (or2 (ordL a a') (cmpI b b')) (or2 (Lib.compareBytes x x') (cmpI c c'))
theorem good_bytes (b : Int) (d : ByteArray) (a : ByteArray) (c : Int) (ha : a.size ≤ 1048576) (hd : d.size ≤ 1048576) (h : Ev (fun k => impl_GoodRecord.f k a b c d) true) : ∃ x : ByteArray, Ev (fun k => spec_l3Bytes.f k b d) (x, true) ∧ Ev (fun k => impl_DataBytes.f k b d) (x, true) := by
 obtain ⟨r, q, r1, r2, q1, q2, hr, hs⟩ := goodrec_both a b c d ha hd
 have e := Ev.unique h r2
 subst e
 have hr := hr.symm
 rw [Bool.and_eq_true] at hr
 obtain ⟨x, y⟩ := q
 obtain rfl : y = true := hr.1
 exact ⟨x, q1, q2⟩
theorem implOrd_ev (a : ByteArray) (b c : Int) (d : ByteArray) (a' : ByteArray) (b' c' : Int) (d' x x' : ByteArray) (ha : a.size ≤ 1048576) (ha' : a'.size ≤ 1048576) (hx : Ev (fun k => impl_DataBytes.f k b d) (x, true)) (hx' : Ev (fun k => impl_DataBytes.f k b' d') (x', true)) :
 Ev (fun k => impl_compareRecords.f k a b c d a' b' c' d') (ordR a.data.toList b c x.data.toList a'.data.toList b' c' x'.data.toList) := by
 have hk : Ev (fun k => impl_compareKeys.f k a b c d a' b' c' d') (or2 (ordL a.data.toList a'.data.toList) (cmpI b b')) := by
  refine Ev.congr (fun k => rfl) (Ev.bind (implComp_ev a a' ha ha') ?_)
  simp only [cmpI_eq, Option.bind_some]
  exact Ev.bind (or_two _ _) (Ev.now _)
 have hd : ∀ {b : Int} {d x : ByteArray}, Ev (fun k => impl_DataBytes.f k b d) (x, true) → Ev (fun k => impl_dataBytes.f k b d) x := fun h => Ev.congr (fun k => rfl) (Ev.bind h (Ev.now _))
 refine Ev.congr (fun k => rfl) (Ev.bind hk (Ev.bind (hd hx) (Ev.bind (hd hx') ?_)))
 unfold strings_Compare.f
 simp only [cmpI_eq, Option.bind_some]
 exact Ev.bind (or_three _ _ _) (Ev.now _)
theorem less_eq (p : Bool) : spec_l3Less.f p = some (if p = true then -1 else 1) := by
 unfold spec_l3Less.f
 cases p <;> rfl
theorem cmpI_ne {a b : Int} (h : ¬ a = b) : cmpI a b = if decide (a < b) = true then -1 else 1 := by
 unfold cmpI
 by_cases h1 : a < b
 · rw [if_pos h1, if_pos (decide_eq_true h1)]
 · rw [if_neg h1, if_pos (by omega), if_neg (by simpa using h1)]
theorem cmpI_self (a : Int) : cmpI a a = 0 := by
 unfold cmpI
 rw [if_neg (by omega), if_neg (by omega)]
theorem specOrd_ev (a : ByteArray) (b c : Int) (d : ByteArray) (a' : ByteArray) (b' c' : Int) (d' x x' : ByteArray) (ha : a.size ≤ 1048576) (ha' : a'.size ≤ 1048576) (ga : goodL a.data.toList = true) (ga' : goodL a'.data.toList = true) (hx : Ev (fun k => spec_l3Bytes.f k b d) (x, true)) (hx' : Ev (fun k => spec_l3Bytes.f k b' d') (x', true)) :
 Ev (fun k => spec_l3Compare.f k a b c d a' b' c' d') (ordR a.data.toList b c x.data.toList a'.data.toList b' c' x'.data.toList) := by
 refine Ev.congr (fun k => rfl) (Ev.bind (specComp_ev a a' ha ha' ga ga') ?_)
 unfold ordR
 by_cases h0 : ordL a.data.toList a'.data.toList = 0
 · simp only [if_pos h0]
   refine Ev.bind hx (Ev.bind hx' ?_)
   simp only [less_eq, Option.bind_some]
   rw [h0]
   by_cases h1 : b = b'
   · subst h1
     simp only [if_true]
     rw [cmpI_self, cmpB_eq, Lib.toList_data, Lib.toList_data]
     by_cases h2 : x.data.toList = x'.data.toList
     · simp only [if_pos h2]
       by_cases h3 : c = c'
       · subst h3
         simp only [if_true]
         rw [cmpI_self]
         exact Ev.now _
       · simp only [if_neg h3]
         rw [cmpI_ne h3]
         exact Ev.now _
     · simp only [if_neg h2]
       by_cases h4 : Op.bytesLess x.data.toList x'.data.toList = true
       · simp only [if_pos h4]; exact Ev.now _
       · simp only [if_neg h4]; exact Ev.now _
   · simp only [if_neg h1]
     rw [cmpI_ne h1]
     by_cases h4 : decide (b < b') = true
     · simp only [if_pos h4]; exact Ev.now _
     · simp only [if_neg h4]; exact Ev.now _
 · simp only [if_neg h0]
   have e : ∀ y z : Int, or2 (or2 (ordL a.data.toList a'.data.toList) y) z = ordL a.data.toList a'.data.toList := fun y z => by
    unfold or2; rw [if_neg h0, if_neg h0]
   rw [e]
   exact Ev.now _
theorem cut_hit (s : ByteArray) (p r : List UInt8) (hs : s.size ≤ 1048576) (h1 : s.data.toList = p ++ 32 :: r) (h2 : ∀ x ∈ p, x ≠ 32) : strings_Cut.f s (⟨#[32]⟩ : ByteArray) = some (mkB p, mkB r, true) := by
 have hix : Lib.indexByte s.data.toList 32 = (p.length : Int) := by
  rcases place_or 32 s.data.toList with ⟨_, g2⟩ | ⟨p', r', g1, g2, g3⟩
  · exact absurd rfl (g2 32 (by rw [h1]; simp))
  · have e : p' :: splitL 32 r' = p :: splitL 32 r := by rw [← splitL_hit 32 p' r' g2, ← g1, h1, splitL_hit 32 p r h2]
    rw [g3, (List.cons.inj e).1]
 have hl : p.length + (r.length + 1) = s.size := by rw [size_len, h1]; simp
 unfold strings_Cut.f stringslite_Cut.f internal_stringslite_Index.f
 rw [if_pos (show (⟨#[32]⟩ : ByteArray).size = 1 from rfl)]
 simp only [Option.bind_some]
 rw [show List.headD (⟨#[32]⟩ : ByteArray).data.toList 0 = 32 from rfl, show (⟨#[32]⟩ : ByteArray).size = 1 from rfl, hix, show (((1 : Nat) : Int)) = 1 from rfl, w64n (by omega), if_pos (by omega), if_pos (by omega), if_pos (by omega), if_pos (by omega), if_pos (by omega), Int.toNat_natCast, Int.toNat_natCast, ext_mkB, ext_end]
 have e1 : (s.data.toList.drop 0).take (p.length - 0) = p := by rw [h1]; simp
 have e2 : s.data.toList.drop (p.length + 1) = r := by
  rw [h1, show p ++ 32 :: r = (p ++ [32]) ++ r by simp, List.drop_append_of_le_length (by simp), List.drop_of_length_le (by simp), List.nil_append]
 rw [e1, e2]
 rfl
theorem cut_none (s : ByteArray) (h2 : ∀ x ∈ s.data.toList, x ≠ 32) : strings_Cut.f s (⟨#[32]⟩ : ByteArray) = some (s, (⟨#[]⟩ : ByteArray), false) := by
 have h1 : Lib.indexByte s.data.toList 32 = -1 := by
  rcases place_or 32 s.data.toList with ⟨h1, _⟩ | ⟨p, r, h1, _, _⟩
  · exact h1
  · exact absurd rfl (h2 32 (by rw [h1]; simp))
 unfold strings_Cut.f stringslite_Cut.f internal_stringslite_Index.f
 rw [if_pos (show (⟨#[32]⟩ : ByteArray).size = 1 from rfl)]
 simp only [Option.bind_some]
 rw [show List.headD (⟨#[32]⟩ : ByteArray).data.toList 0 = 32 from rfl, h1, if_neg (by omega)]
 rfl
theorem data_names {k : Nat} {kind : Int} {s x : ByteArray} (hs : s.size ≤ 1048576) (h : impl_DataBytes.f k kind s = some (x, true)) : ((kind = 2 ∨ kind = 5) → targL s.data.toList = true) ∧ (kind = 15 → ∃ p r, s.data.toList = p ++ 32 :: r ∧ (∀ x ∈ p, x ≠ 32) ∧ (canL p && decide ((valL p : Int) ≤ 65535)) = true ∧ targL r = true) := by
 unfold impl_DataBytes.f at h
 refine ⟨fun c2 => ?_, fun c15 => ?_⟩
 · rw [if_neg (by omega), if_pos c2] at h
   unfold dataNs at h
   rw [target_impl, Option.bind_some] at h
   by_cases ht : targL s.data.toList = true
   · exact ht
   · rw [if_neg ht] at h
     cases (Prod.mk.inj (Option.some.inj h)).2
 · rw [if_neg (by omega), if_neg (by omega), if_neg (by omega), if_pos c15] at h
   unfold dataMx at h
   rcases place_or 32 s.data.toList with ⟨h1, h2⟩ | ⟨p, r, h1, h2, h3⟩
   · rw [cut_none s h2, Option.bind_some] at h
     simp only [target_impl, Option.bind_some, show targL (⟨#[]⟩ : ByteArray).data.toList = false from rfl, Bool.false_eq_true, if_false] at h
     obtain ⟨⟨v, b⟩, _, h⟩ := Option.bind_eq_some_iff.mp h
     cases b with
     | true => simp [badD] at h
     | false => simp [badD] at h
   · refine ⟨p, r, h1, h2, ?_⟩
     rw [cut_hit s p r hs h1 h2, Option.bind_some] at h
     have hl : p.length + (r.length + 1) = s.size := by rw [size_len, h1]; simp
     obtain ⟨v, hn1, _⟩ := number_eq (mkB p) 65535 (by rw [mkB_size]; omega) (by omega) (by omega)
     simp only [hn1, Option.bind_some, target_impl, mkB_data] at h
     by_cases hb : (canL p && decide ((valL p : Int) ≤ 65535)) = true
     · by_cases ht : targL r = true
       · exact ⟨hb, ht⟩
       · rw [if_pos hb, if_neg ht] at h
         cases (Prod.mk.inj (Option.some.inj h)).2
     · rw [if_neg hb] at h
       cases (Prod.mk.inj (Option.some.inj h)).2
theorem targ_no32 {r : List UInt8} (h : targL r = true) : ∀ x ∈ r, x ≠ 32 := by
 intro x hx e
 subst e
 rw [space_bad hx] at h
 cases h
theorem targ_ne {r : List UInt8} (h : targL r = true) : r ≠ [] := by
 intro e
 subst e
 cases h
theorem l3To_j (k : Nat) (b : Int) (x : Bool) (a : ByteArray) (c : Int) (d : ByteArray) : spec_l3To.j0 (k + 1) b x a b c d = if x = true then some d else (if b = 15 then ((spec_l1Split.f k d 32).bind fun t252 => (if 1 < (t252.length : Int) then (some (rdOf ByteArray.empty t252 1)) else (none))) else some (⟨#[]⟩ : ByteArray)) := rfl
theorem targetOf_j (k : Nat) (b : Int) (x : Bool) (a : ByteArray) (c : Int) (d : ByteArray) : impl_targetOf.j0 (k + 1) b x a b c d = if x = true then some (d, true) else (if b = 15 then ((strings_Cut.f d (⟨#[32]⟩ : ByteArray)).bind fun bt261 => (some (bt261.2.1, true))) else some ((⟨#[]⟩ : ByteArray), false)) := rfl
theorem to_both {k : Nat} (a : ByteArray) (b c : Int) {d x : ByteArray} (hd : d.size ≤ 1048576) (h : impl_DataBytes.f k b d = some (x, true)) : ∃ t : ByteArray, Ev (fun k => spec_l3To.f k a b c d) t ∧ Ev (fun k => impl_targetOf.f k a b c d) (t, decide (t.data.toList ≠ [])) := by
 obtain ⟨h1, h2⟩ := data_names hd h
 by_cases c2 : b = 2 ∨ b = 5
 · have ht := h1 c2
   have hne := targ_ne ht
   refine ⟨d, ?_, ?_⟩
   · refine Ev.congr (f := fun k => spec_l3To.j0 k b true a b c d) (fun k => ?_) (Ev.step (f := fun _ => some d) (fun k => rfl) (Ev.now _))
     unfold spec_l3To.f
     rcases c2 with rfl | rfl
     · rw [if_pos rfl]; rfl
     · rw [if_neg (by omega)]; rfl
   · rw [decide_eq_true hne]
     refine Ev.congr (f := fun k => impl_targetOf.j0 k b true a b c d) (fun k => ?_) (Ev.step (f := fun _ => some (d, true)) (fun k => rfl) (Ev.now _))
     unfold impl_targetOf.f
     rcases c2 with rfl | rfl
     · rw [if_pos rfl]; rfl
     · rw [if_neg (by omega)]; rfl
 · have e2 : ¬ b = 2 := fun e => c2 (.inl e)
   have e5 : (b == 5) = false := beq_eq_false_iff_ne.mpr fun e => c2 (.inr e)
   by_cases c15 : b = 15
   · obtain ⟨p, r, g1, g2, _, g3⟩ := h2 c15
     have hsp := split32_ev d (by omega)
     rw [g1, splitL_hit 32 p r g2, splitL_none 32 r (targ_no32 g3)] at hsp
     refine ⟨mkB r, ?_, ?_⟩
     · refine Ev.congr (f := fun k => spec_l3To.j0 k b false a b c d) (fun k => ?_) (Ev.step (f := fun k => (spec_l1Split.f k d 32).bind fun t252 => (if 1 < (t252.length : Int) then (some (rdOf ByteArray.empty t252 1)) else (none))) (fun k => ?_) (Ev.bind hsp ?_))
       · unfold spec_l3To.f
         rw [if_neg e2, e5]
       · rw [show _ from l3To_j k b false a c d, if_neg (by decide), if_pos c15]
       · exact Ev.now _
     · rw [mkB_data, decide_eq_true (targ_ne g3)]
       refine Ev.congr (f := fun k => impl_targetOf.j0 k b false a b c d) (fun k => ?_) (Ev.step (f := fun k => some (mkB r, true)) (fun k => ?_) (Ev.now _))
       · unfold impl_targetOf.f
         rw [if_neg e2, e5]
       · rw [show _ from targetOf_j k b false a c d, if_neg (by decide), if_pos c15, cut_hit d p r hd g1 g2]
         rfl
   · refine ⟨(⟨#[]⟩ : ByteArray), ?_, ?_⟩
     · refine Ev.congr (f := fun k => spec_l3To.j0 k b false a b c d) (fun k => ?_) (Ev.step (f := fun k => some (⟨#[]⟩ : ByteArray)) (fun k => ?_) (Ev.now _))
       · unfold spec_l3To.f
         rw [if_neg e2, e5]
       · rw [show _ from l3To_j k b false a c d, if_neg (by decide), if_neg c15]
     · refine Ev.congr (f := fun k => impl_targetOf.j0 k b false a b c d) (fun k => ?_) (Ev.step (f := fun k => some ((⟨#[]⟩ : ByteArray), false)) (fun k => ?_) (Ev.now _))
       · unfold impl_targetOf.f
         rw [if_neg e2, e5]
       · rw [show _ from targetOf_j k b false a c d, if_neg (by decide), if_neg c15]
theorem mkB_self (t : ByteArray) : mkB t.data.toList = t := by simp [mkB]
theorem target_both (a : ByteArray) (b c : Int) (d : ByteArray) (ha : a.size ≤ 1048576) (hd : d.size ≤ 1048576) : ∃ r, Ev (fun k => spec_TargetOf.f k a b c d) r ∧ Ev (fun k => impl_TargetOf.f k a b c d) r := by
 obtain ⟨r, q, r1, r2, q1, ⟨K, q2⟩, hr, _⟩ := goodrec_both a b c d ha hd
 cases hrt : r with
 | false =>
  subst hrt
  refine ⟨((⟨#[]⟩ : ByteArray), false), Ev.congr (fun k => rfl) (Ev.bind r1 ?_), Ev.congr (fun k => rfl) (Ev.bind r2 ?_)⟩
  · exact Ev.now _
  · exact Ev.now _
 | true =>
  have hq : q.2 = true := by
   rw [hrt] at hr
   have := hr.symm
   rw [Bool.and_eq_true] at this
   exact this.1
  have hK : impl_DataBytes.f K b d = some (if q.2 = true then (q.1, true) else badD) := q2 K (Nat.le_refl _)
  rw [if_pos hq] at hK
  obtain ⟨t, t1, t2⟩ := to_both a b c hd hK
  subst hrt
  by_cases hn : t.data.toList = []
  · rw [decide_eq_false (fun h => h hn)] at t2
    have he : t = (⟨#[]⟩ : ByteArray) := by
     have := mkB_self t
     rw [hn] at this
     exact this.symm
    refine ⟨((⟨#[]⟩ : ByteArray), false), Ev.congr (fun k => rfl) (Ev.bind r1 ?_), Ev.congr (fun k => rfl) (Ev.bind r2 ?_)⟩
    · refine Ev.bind t1 ?_
      simp only [if_pos (show t.toList = [] by rw [Lib.toList_data]; exact hn)]
      exact Ev.now _
    · refine Ev.bind t2 ?_
      rw [he]
      exact Ev.now _
  · rw [decide_eq_true hn] at t2
    refine ⟨(t, true), Ev.congr (fun k => rfl) (Ev.bind r1 ?_), Ev.congr (fun k => rfl) (Ev.bind r2 ?_)⟩
    · refine Ev.bind t1 ?_
      simp only [if_neg (show ¬ t.toList = [] by rw [Lib.toList_data]; exact hn)]
      exact Ev.bind t1 (Ev.now _)
    · exact Ev.bind t2 (Ev.now _)
def noB : ByteArray := (⟨#[]⟩ : ByteArray)
def finS0 (k : Nat) (kind : Int) (b d : ByteArray) : Option (ByteArray × Bool) := (spec_l3Bytes.f k kind d).bind fun bt => (if bt.2 = true then (if bt.1.toList = b.toList then (some (d, true)) else (some ((⟨#[]⟩ : ByteArray), false))) else (some ((⟨#[]⟩ : ByteArray), false)))
def finS (k : Nat) (kind : Int) (b d : ByteArray) : Option (ByteArray × Bool) := spec_ReadData.j2 k kind b d
def finR (b d : ByteArray) (r : ByteArray × Bool) : ByteArray × Bool := if r.2 = true ∧ r.1.toList = b.toList then (d, true) else badD
theorem finS_ev {kind : Int} {b d : ByteArray} {r : ByteArray × Bool} (h : Ev (fun k => specData k kind d) r) : Ev (fun k => finS k kind b d) (finR b d r) := by
 refine Ev.step (f := fun k => finS0 k kind b d) (fun k => rfl) ?_
 obtain ⟨K, h⟩ := h
 refine ⟨K, fun n hn => ?_⟩
 have h1 := h n hn
 simp only [specData] at h1
 obtain ⟨q, hq, h1⟩ := Option.bind_eq_some_iff.mp h1
 simp only [finS0]
 rw [hq, Option.bind_some]
 by_cases c : q.2 = true
 · rw [if_pos c] at h1
   rw [if_pos c]
   obtain rfl := Option.some.inj h1
   unfold finR
   by_cases e : q.1.toList = b.toList
   · rw [if_pos e, if_pos ⟨rfl, e⟩]
   · rw [if_neg e, if_neg (fun x => e x.2)]; rfl
 · rw [if_neg c] at h1
   rw [if_neg c]
   obtain rfl := Option.some.inj h1
   unfold finR
   rw [if_neg (fun x => by cases x.1)]; rfl
theorem finI_ev {kind : Int} {b d : ByteArray} {r : ByteArray × Bool} (h : Ev (fun k => impl_DataBytes.f k kind d) r) : Ev (fun k => finI k kind b d) (finR b d r) := by
 unfold finI
 refine Ev.bind h ?_
 unfold finR
 exact Ev.now _
theorem big_size {n c : Int} {k : Nat} {t : ByteArray} (h : impl_big.f k n c = some t) : (c = 1 → t.size = 1) ∧ (c = 2 → t.size = 2) ∧ (c = 4 → t.size = 4) := by
 have e : Ev (fun k => impl_big.f k n c) t := Ev.of (fun k => impl_big.mono _ _ _) h
 refine ⟨fun hc => ?_, fun hc => ?_, fun hc => ?_⟩
 · subst hc; rw [Ev.unique e (big1 n), strOfNums_size]; rfl
 · subst hc; rw [Ev.unique e (big2 n), strOfNums_size]; rfl
 · subst hc; rw [Ev.unique e (big4 n), strOfNums_size]; rfl
theorem l0_size : ∀ (k : Nat) (parts : List ByteArray) (out : ByteArray) (i : Nat) (r : ByteArray × Bool), impl_DataBytes.l0 k parts out (i : Int) = some r → r.2 = true → i ≤ parts.length → parts.length < 1099511627776 → (i < parts.length → parts.length = 4) ∧ r.1.size = out.size + (parts.length - i)
 | 0, parts, out, i, r, h, h2, hi, hl => by simp [impl_DataBytes.l0] at h
 | k + 1, parts, out, i, r, h, h2, hi, hl => by
  unfold impl_DataBytes.l0 at h
  by_cases c : (i : Int) < (parts.length : Int)
  · rw [if_pos c, if_pos (by omega)] at h
    obtain ⟨b, hb, h⟩ := Option.bind_eq_some_iff.mp h
    by_cases c2 : b.2 = true
    · rw [if_pos c2] at h
      by_cases c4 : (parts.length : Int) = 4
      · rw [if_pos c4] at h
        obtain ⟨t, ht, h⟩ := Option.bind_eq_some_iff.mp h
        have hz := (big_size ht).1 rfl
        by_cases c5 : out.size + t.size ≤ 9223372036854775807
        · rw [if_pos c5, w64n (by omega)] at h
          have := l0_size k parts (out ++ t) (i + 1) r h h2 (by omega) hl
          rw [ByteArray.size_append] at this
          exact ⟨fun _ => by omega, by omega⟩
        · rw [if_neg c5] at h; cases h
      · rw [if_neg c4] at h
        obtain rfl := Option.some.inj h
        cases h2
    · rw [if_neg c2] at h
      obtain rfl := Option.some.inj h
      cases h2
  · rw [if_neg c] at h
    obtain rfl := Option.some.inj h
    exact ⟨fun x => by omega, by show out.size = _; omega⟩
theorem lab_size {k : Nat} {s lb : ByteArray} (ht : impl_isTarget.f s = some true) (h : impl_labelBytes.f k s = some lb) : lb.size = s.size + 1 ∧ s.size ≤ 60 ∧ s.size ≠ 0 := by
 have e : Ev (fun k => impl_labelBytes.f k s) lb := Ev.of (fun k => impl_labelBytes.mono _ _) h
 have hT : targL s.data.toList = true := Option.some.inj ((target_impl s).symm.trans ht)
 have hg := targ_good hT
 obtain ⟨r, g1, _, g3⟩ := nb_both s hg
 have hz := good_size hg
 rw [← size_len] at hz
 have hne : s.size ≠ 0 := by
  intro e0
  rw [size_len] at e0
  rw [List.length_eq_zero_iff.mp e0] at hT
  simp [targL] at hT
 rw [Ev.unique e g1, g3, if_neg hne]
 exact ⟨rfl, by omega, hne⟩
theorem data_size {k : Nat} {kind : Int} {d : ByteArray} {r : ByteArray × Bool} (hd : d.size ≤ 1048576) (h : impl_DataBytes.f k kind d = some r) (h2 : r.2 = true) :
 r.1.size ≤ 100 ∧ (kind = 1 → r.1.size = 4 ∨ r.1.size = 0) ∧ (kind = 2 ∨ kind = 5 → r.1.size = d.size + 2 ∧ d.size ≠ 0) ∧
 (kind = 15 → ∃ c, strings_Cut.f d (⟨#[32]⟩ : ByteArray) = some c ∧ r.1.size = c.2.1.size + 4 ∧ c.2.1.size ≠ 0) := by
 unfold impl_DataBytes.f at h
 by_cases k1 : kind = 1
 · rw [if_pos k1] at h
   obtain ⟨parts, hp, h⟩ := Option.bind_eq_some_iff.mp h
   have hpl : parts.length < 1099511627776 := by
    unfold strings_Split.f at hp
    rw [if_pos (show (⟨#[46]⟩ : ByteArray).size = 1 from rfl), if_pos (by omega)] at hp
    obtain rfl := Option.some.inj hp
    rw [List.length_map]
    have := splitL_len ((⟨#[46]⟩ : ByteArray).data.toList.headD 0) d.data.toList
    rw [← size_len] at this
    omega
   have h3 := l0_size k parts _ 0 r h h2 (by omega) hpl
   have h4 : (⟨#[]⟩ : ByteArray).size = 0 := rfl
   rw [h4] at h3
   by_cases c : 0 < parts.length
   · have := h3.1 c
     exact ⟨by omega, fun _ => .inl (by omega), fun e => by omega, fun e => by omega⟩
   · exact ⟨by omega, fun _ => .inr (by omega), fun e => by omega, fun e => by omega⟩
 rw [if_neg k1] at h
 by_cases k2 : kind = 2 ∨ kind = 5
 · rw [if_pos k2] at h
   unfold dataNs at h
   obtain ⟨t, ht, h⟩ := Option.bind_eq_some_iff.mp h
   cases t with
   | false => rw [if_neg (by decide)] at h; obtain rfl := Option.some.inj h; cases h2
   | true =>
    rw [if_pos rfl] at h
    obtain ⟨lb, hlb, h⟩ := Option.bind_eq_some_iff.mp h
    have hz := lab_size ht hlb
    rw [if_pos (by omega)] at h
    obtain rfl := Option.some.inj h
    have e : (lb ++ (⟨#[0]⟩ : ByteArray)).size = lb.size + 1 := by rw [ByteArray.size_append]; rfl
    exact ⟨by show (lb ++ (⟨#[0]⟩ : ByteArray)).size ≤ _; omega, fun e => by omega, fun _ => ⟨by show (lb ++ (⟨#[0]⟩ : ByteArray)).size = _; omega, hz.2.2⟩, fun e => by omega⟩
 rw [if_neg k2] at h
 by_cases k6 : kind = 6
 · rw [if_pos k6] at h
   unfold dataSoa at h
   obtain ⟨b, hb, h⟩ := Option.bind_eq_some_iff.mp h
   by_cases c : b.2 = true
   · rw [if_pos c] at h
     obtain ⟨t, ht, h⟩ := Option.bind_eq_some_iff.mp h
     have hz := (big_size ht).2.2 rfl
     obtain rfl := Option.some.inj h
     exact ⟨by show t.size ≤ _; omega, fun e => by omega, fun e => by omega, fun e => by omega⟩
   · rw [if_neg c] at h; obtain rfl := Option.some.inj h; cases h2
 rw [if_neg k6] at h
 by_cases k15 : kind = 15
 · rw [if_pos k15] at h
   unfold dataMx at h
   obtain ⟨c, hc, h⟩ := Option.bind_eq_some_iff.mp h
   obtain ⟨b, hb, h⟩ := Option.bind_eq_some_iff.mp h
   by_cases cb : b.2 = true
   · rw [if_pos cb] at h
     obtain ⟨t, ht, h⟩ := Option.bind_eq_some_iff.mp h
     cases t with
     | false => rw [if_neg (by decide)] at h; obtain rfl := Option.some.inj h; cases h2
     | true =>
      rw [if_pos rfl] at h
      obtain ⟨g, hg, h⟩ := Option.bind_eq_some_iff.mp h
      obtain ⟨lb, hlb, h⟩ := Option.bind_eq_some_iff.mp h
      have hz := lab_size ht hlb
      have hgz := (big_size hg).2.1 rfl
      rw [if_pos (by omega), if_pos (by omega)] at h
      obtain rfl := Option.some.inj h
      have e : ((g ++ lb) ++ (⟨#[0]⟩ : ByteArray)).size = g.size + lb.size + 1 := by rw [ByteArray.size_append, ByteArray.size_append]; rfl
      exact ⟨by show ((g ++ lb) ++ (⟨#[0]⟩ : ByteArray)).size ≤ _; omega, fun e => by omega, fun e => by omega, fun _ => ⟨c, hc, by show ((g ++ lb) ++ (⟨#[0]⟩ : ByteArray)).size = _; omega, hz.2.2⟩⟩
   · rw [if_neg cb] at h; obtain rfl := Option.some.inj h; cases h2
 rw [if_neg k15] at h
 by_cases k16 : kind = 16
 · rw [if_pos k16] at h
   unfold dataTxt at h
   by_cases c : (d.size : Int) > 30
   · rw [if_pos c] at h; obtain rfl := Option.some.inj h; cases h2
   rw [if_neg c] at h
   split at h
   · obtain rfl := Option.some.inj h; cases h2
   obtain ⟨t, ht, h⟩ := Option.bind_eq_some_iff.mp h
   have hz := (big_size ht).1 rfl
   rw [if_pos (by omega)] at h
   obtain rfl := Option.some.inj h
   exact ⟨by show (t ++ d).size ≤ _; rw [ByteArray.size_append]; omega, fun e => by omega, fun e => by omega, fun e => by omega⟩
 · rw [if_neg k16] at h; obtain rfl := Option.some.inj h; cases h2
theorem fin_both (kind : Int) (b d : ByteArray) (hd : d.size ≤ 1048576) : ∃ q, Ev (fun k => finS k kind b d) q ∧ Ev (fun k => finI k kind b d) q ∧ ((∀ k r, impl_DataBytes.f k kind d = some r → r.2 = true → r.1.size ≠ b.size) → q = badD) := by
 obtain ⟨r, h1, h2⟩ := data_both kind d hd
 refine ⟨finR b d r, finS_ev h1, finI_ev h2, fun hb => ?_⟩
 obtain ⟨k, hk⟩ := Ev.rounds h2
 unfold finR
 rw [if_neg]
 rintro ⟨e1, e2⟩
 refine hb k r hk e1 ?_
 rw [Lib.toList_data, Lib.toList_data] at e2
 rw [size_len, size_len, e2]
theorem both_of (kind : Int) (b dS dI : ByteArray) (hS : dS.size ≤ 1048576) (hI : dI.size ≤ 1048576) (S : ∀ q, Ev (fun k => finS k kind b dS) q → Ev (fun k => spec_ReadData.f k kind b) q) (hp : Ev (fun k => preI k kind b) dI)
 (hsame : dS = dI ∨ ((∀ k r, impl_DataBytes.f k kind dS = some r → r.2 = true → r.1.size ≠ b.size) ∧ (∀ k r, impl_DataBytes.f k kind dI = some r → r.2 = true → r.1.size ≠ b.size))) :
 ∃ q, Ev (fun k => spec_ReadData.f k kind b) q ∧ Ev (fun k => impl_ReadData.f k kind b) q := by
 have I : ¬ 100 < b.size → ∀ q, Ev (fun k => finI k kind b dI) q → Ev (fun k => impl_ReadData.f k kind b) q := fun hn q hq => by
  unfold impl_ReadData.f
  simp only [if_neg hn]
  exact Ev.bind hp hq
 obtain ⟨q, g1, g2, g3⟩ := fin_both kind b dS hS
 by_cases hb : 100 < b.size
 · refine ⟨q, S q g1, ?_⟩
   rw [g3 (fun k r h e => by have := (data_size hS h e).1; omega)]
   unfold impl_ReadData.f
   simp only [if_pos hb]
   exact Ev.now _
 · rcases hsame with rfl | ⟨h1, h2⟩
   · exact ⟨q, S q g1, I hb q g2⟩
   · obtain ⟨q', f1, f2, f3⟩ := fin_both kind b dI hI
     refine ⟨badD, ?_, ?_⟩
     · rw [g3 h1] at g1
       exact S _ g1
     · rw [f3 h2] at f2
       exact I hb _ f2
theorem name_ev {b : ByteArray} {r : ByteArray × Int × List Int × Bool} (h : Ev (fun k => spec_l2Take.f k b 0) r) : Ev (fun k => spec_l3Name.f k b) (if (b.size : Int) = 0 then noB else (if r.2.2.2 = true then (if r.2.1 = (b.size : Int) then r.1 else noB) else noB)) := by
 unfold spec_l3Name.f
 by_cases h0 : (b.size : Int) = 0
 · simp only [if_pos h0]
   exact Ev.now _
 · simp only [if_neg h0]
   refine Ev.bind h ?_
   by_cases h1 : r.2.2.2 = true
   · simp only [if_pos h1]
     by_cases h2 : r.2.1 = (b.size : Int)
     · simp only [if_pos h2]; exact Ev.now _
     · simp only [if_neg h2]; exact Ev.now _
   · simp only [if_neg h1]; exact Ev.now _
theorem noB_of {v : ByteArray} (h : v.size = 0) : v = noB := by
 apply ext_data
 rw [size_len] at h
 rw [List.length_eq_zero_iff.mp h]
 rfl
theorem names_in (b : ByteArray) (hb : b.size ≤ 600) : ∃ u v, Ev (fun k => spec_l3Name.f k b) u ∧ Ev (fun k => impl_nameIn.f k b) v ∧ u.size ≤ 1000 ∧ v.size ≤ 1000 ∧ (u = v ∨ (u = noB ∧ v.size ≠ 0 ∧ v.size + 2 ≠ b.size)) := by
 obtain ⟨r, r', g1, g2, g3, g4⟩ := take_both b hb 0 (Nat.zero_le _)
 have g1' : Ev (fun k => spec_l2Take.f k b 0) r := g1
 have g2' : Ev (fun k => impl_takeName.f k b 0) r' := g2
 refine ⟨_, r'.1, name_ev g1', Ev.bind g2' (Ev.now _), ?_⟩
 by_cases ho : r'.2.2.2 = true
 · rw [ho] at g3
   obtain ⟨e1, e2, e3, e4, e5, e6⟩ := g4 g3
   obtain ⟨k, hk⟩ := Ev.rounds g2'
   obtain ⟨ls, pl, en, f1, f2, f3, f4, f5⟩ := taken b hb (a := 0) hk ho
   obtain ⟨f6, f7⟩ := labels_back f3
   have hz := good_size f6
   rw [← size_len] at hz
   rw [if_neg (by omega), if_pos g3]
   by_cases c : r.2.1 = (b.size : Int)
   · rw [if_pos c, e1]
     exact ⟨by omega, by omega, .inl rfl⟩
   · rw [if_neg c]
     refine ⟨by show 0 ≤ 1000; omega, by omega, ?_⟩
     by_cases hv : r'.1.size = 0
     · exact .inl (noB_of hv).symm
     · refine .inr ⟨rfl, hv, fun e => c ?_⟩
       have hn : r'.1.data.toList ≠ [] := fun e => hv (by rw [size_len, e]; rfl)
       have hl := reads_len f1 rfl
       have hsum : (ls.map fun x => 1 + x.size).sum = r'.1.size + 1 := by
        rw [f7, List.map_map, show ((fun x : ByteArray => 1 + x.size) ∘ mkB) = fun p : List UInt8 => 1 + p.length from funext fun p => by simp [mkB_size]]
        unfold labelsL
        rw [if_neg hn, split_sum, ← size_len]
       rw [e2, f5]
       omega
 · have ho' : r'.2.2.2 = false := by simpa using ho
   rw [ho'] at g3
   have hv := take_fail b hb g2' ho'
   rw [if_neg (show ¬ r.2.2.2 = true by rw [g3]; decide), ite_self, hv]
   exact ⟨by show 0 ≤ 1000; omega, by show 0 ≤ 1000; omega, .inl rfl⟩
theorem or64 (a c : Nat) (ha : a < 1099511627776) (hc : c < 256) : Go.bits .or .i64 (a : Int) (c : Int) = ((a ||| c : Nat) : Int) := by
 have hx : a ||| c < 2 ^ 40 := Nat.or_lt_two_pow (by omega) (by omega)
 have h1 : (BitVec.ofInt 64 (a : Int)).toNat = a := by
  rw [BitVec.ofInt_natCast, BitVec.toNat_ofNat]; exact Nat.mod_eq_of_lt (by omega)
 have h2 : (BitVec.ofInt 64 (c : Int)).toNat = c := by
  rw [BitVec.ofInt_natCast, BitVec.toNat_ofNat]; exact Nat.mod_eq_of_lt (by omega)
 show IntKind.i64.wrap ((BitVec.ofInt 64 (a : Int) ||| BitVec.ofInt 64 (c : Int)).toNat : Int) = _
 rw [BitVec.toNat_or, h1, h2, i64_w]
 unfold wrap64
 omega
theorem read_loop (b : ByteArray) (hb : b.size ≤ 4) : ∀ (m i n : Nat), i + m = b.size → n < 2 ^ (8 * i) → ∃ v : Nat, v < 2 ^ 32 ∧ Ev (fun k => spec_l3Read.l0 k b (n : Int) (i : Int)) (v : Int) ∧ Ev (fun k => impl_number.l0 k b (n : Int) (b.size : Int) (i : Int)) (v : Int)
 | 0, i, n, h, hn => by
  refine ⟨n, Nat.lt_of_lt_of_le hn (Nat.pow_le_pow_right (by omega) (by omega)), ?_, ?_⟩
  · exact Ev.step (f := fun _ => some (n : Int)) (fun k => by rw [spec_l3Read.l0, if_neg (by omega)]) (Ev.now _)
  · exact Ev.step (f := fun _ => some (n : Int)) (fun k => by rw [impl_number.l0, if_neg (by omega)]) (Ev.now _)
 | m + 1, i, n, h, hn => by
  have hr := bt_range b (i : Int)
  have hle : 2 ^ (8 * i) ≤ 2 ^ 24 := Nat.pow_le_pow_right (by omega) (by omega)
  obtain ⟨c, hc⟩ : ∃ c : Nat, bt b (i : Int) = (c : Int) := ⟨(bt b (i : Int)).toNat, by omega⟩
  rw [hc] at hr
  have h256 : 2 ^ (8 * (i + 1)) = 2 ^ (8 * i) * 256 := by rw [show 8 * (i + 1) = 8 * i + 8 by omega, Nat.pow_add]
  have h1 : n * 256 < 2 ^ (8 * (i + 1)) := by omega
  have h8 : 2 ^ 8 ≤ 2 ^ (8 * (i + 1)) := Nat.pow_le_pow_right (by omega) (by omega)
  have hor : n * 256 ||| c < 2 ^ (8 * (i + 1)) := Nat.or_lt_two_pow h1 (by omega)
  obtain ⟨v, g1, g2, g3⟩ := read_loop b hb m (i + 1) (n * 256 ||| c) (by omega) hor
  have ev : Go.bits .or .i64 (wrap64 ((n : Int) * 256)) (wrap64 (bt b (i : Int))) = ((n * 256 ||| c : Nat) : Int) := by
   rw [hc, show wrap64 ((n : Int) * 256) = ((n * 256 : Nat) : Int) by unfold wrap64; omega, show wrap64 (c : Int) = (c : Int) by unfold wrap64; omega, or64 _ _ (by omega) (by omega)]
  refine ⟨v, g1, ?_, ?_⟩
  · exact Ev.step (fun k => by rw [spec_l3Read.l0, if_pos (by omega), if_pos (by omega), ev, w64n (by omega)]) g2
  · exact Ev.step (fun k => by rw [impl_number.l0, if_pos (by omega), if_pos (by omega), if_pos (by omega), ev, w64n (by omega)]) g3
theorem read_num (b : ByteArray) (hb : b.size ≤ 4) : ∃ n : Int, 0 ≤ n ∧ n < 9223372036854775807 ∧ Ev (fun k => spec_l3Read.f k b) n ∧ Ev (fun k => impl_number.f k b) n := by
 obtain ⟨v, g1, g2, g3⟩ := read_loop b hb b.size 0 0 (by omega) (by decide)
 exact ⟨v, by omega, by omega, g2, g3⟩
theorem joinTail_snoc (x : List UInt8) : ∀ r : List (List UInt8), Lib.joinTail [46] (r ++ [x]) = Lib.joinTail [46] r ++ 46 :: x
 | [] => by simp [Lib.joinTail]
 | y :: r => by rw [List.cons_append, tail_cons, tail_cons, joinTail_snoc x r]; simp
theorem joinL_snoc (l : List ByteArray) (x : ByteArray) (h : l ≠ []) : joinL (l ++ [x]) = joinL l ++ 46 :: x.data.toList := by
 cases l with
 | nil => exact absurd rfl h
 | cons y r =>
  unfold joinL
  rw [List.map_append, List.map_cons, List.cons_append]
  rw [List.map_cons, List.map_nil, Lib.join_cons, Lib.join_cons, joinTail_snoc, List.append_assoc]
theorem bt_getD (b : ByteArray) (i : Nat) (h : i < b.size) : bt b (i : Int) = ((b.data.toList.getD i 0).toNat : Int) := by
 have hl : i < b.data.toList.length := by rw [← size_len]; exact h
 have := bt_mkB b.data.toList i hl
 rw [data_mkB] at this
 rw [this, List.getD_eq_getElem?_getD, List.getElem?_eq_getElem hl]
 rfl
theorem itoaB_it (n : Int) (h : 0 ≤ n) : itoaB n = itB n := by
 unfold itoaB itB Lib.itoa
 rw [if_neg (by omega)]
 rfl
theorem dots_size (b : ByteArray) (i : Nat) : (mkB (joinL ((partsI b).take i))).size ≤ b.size * 21 := by
 rw [mkB_size]
 have h1 := joinL_len ((partsI b).take i) (fun x hx => parts_size b x (List.mem_of_mem_take hx))
 have h2 := List.length_take_le' i (partsI b)
 rw [parts_len] at h2
 omega
theorem a_spec (b : ByteArray) (hb : b.size ≤ 600) {q : ByteArray × Bool} (hq : Ev (fun k => finS k 1 b (mkB (joinL (partsI b)))) q) : ∀ (m i : Nat), i + m = b.size → Ev (fun k => spec_ReadData.l0 k 1 b (mkB (joinL ((partsI b).take i))) (i : Int)) q
 | 0, i, h => by
  rw [List.take_of_length_le (by rw [parts_len]; omega)]
  exact Ev.step (fun k => by rw [spec_ReadData.l0, if_neg (by omega)]; rfl) hq
 | m + 1, i, h => by
  have ih := a_spec b hb hq m (i + 1) (by omega)
  have hz := dots_size b i
  have hr := bt_range b (i : Int)
  have hw : wrap64 (bt b (i : Int)) = bt b (i : Int) := by unfold wrap64; omega
  have hn := num_it (bt b (i : Int)) (by omega) (by omega)
  have hs := itB_size (bt b (i : Int)) (by omega) (by omega)
  rw [parts_next b i (by omega), ← bt_getD b i (by omega), itoaB_it _ (by omega)] at ih
  by_cases c : (i : Int) > 0
  · have hne : (partsI b).take i ≠ [] := fun e => by
     have := congrArg List.length e
     rw [List.length_take, parts_len, List.length_nil] at this
     omega
    rw [joinL_snoc _ _ hne] at ih
    have e : mkB (joinL ((partsI b).take i) ++ 46 :: (itB (bt b (i : Int))).data.toList) = (mkB (joinL ((partsI b).take i)) ++ (⟨#[46]⟩ : ByteArray)) ++ itB (bt b (i : Int)) := by
     apply ext_data
     rw [mkB_data]
     simp [mkB_data]
    rw [e] at ih
    have es : (mkB (joinL ((partsI b).take i)) ++ (⟨#[46]⟩ : ByteArray)).size = (mkB (joinL ((partsI b).take i))).size + 1 := by rw [ByteArray.size_append]; rfl
    refine Ev.step (fun k => by rw [spec_ReadData.l0, if_pos (by omega), if_pos c, if_pos (by omega), if_pos (by omega), hw]) (Ev.bind hn ?_)
    simp only [if_pos (show (mkB (joinL ((partsI b).take i)) ++ (⟨#[46]⟩ : ByteArray)).size + (itB (bt b (i : Int))).size ≤ 9223372036854775807 by omega)]
    rw [w64n (by omega)]
    exact ih
  · obtain rfl : i = 0 := by omega
    refine Ev.step (fun k => by rw [spec_ReadData.l0, if_pos (by omega), if_neg c, if_pos (by omega), hw]) (Ev.bind hn ?_)
    have e : mkB (joinL ((partsI b).take 0 ++ [itB (bt b ((0 : Nat) : Int))])) = mkB (joinL ((partsI b).take 0)) ++ itB (bt b ((0 : Nat) : Int)) := by
     apply ext_data
     rw [mkB_data]
     simp [joinL, Lib.join, Lib.joinTail, mkB_data]
    rw [e] at ih
    simp only [if_pos (show (mkB (joinL ((partsI b).take 0))).size + (itB (bt b ((0 : Nat) : Int))).size ≤ 9223372036854775807 by omega)]
    rw [w64n (by omega)]
    exact ih
end Go.Proofs.YtiegkjimpclmaaaGreatDoor.Pure
