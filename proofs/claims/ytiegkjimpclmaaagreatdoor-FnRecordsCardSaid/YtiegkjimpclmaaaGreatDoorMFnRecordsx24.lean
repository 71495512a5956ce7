/- FnRecords: part 25 of 29 of my texts for this claim, joined; the theorem stands in the last. Conditions: none beyond the statement's. -/
import Derived.Test.YtiegkjimpclmaaaGreatDoorMFnRecordsx22
namespace Go.Proofs.YtiegkjimpclmaaaGreatDoor.Pure
open Go.RowKit Go.Proofs.YtiegkjimpclmaaaGreatDoor.P Go.Proofs.YtiegkjimpclmaaaGreatDoorW.PrintWords Go.Proofs.YtiegkjimpclmaaaGreatDoorW.PrintLast
set_option linter.unusedVariables false
set_option linter.unusedSimpArgs false
set_option linter.unusedSectionVars false
theorem tail_cons (y : List UInt8) (r : List (List UInt8)) : Lib.joinTail [46] (y :: r) = 46 :: (y ++ Lib.joinTail [46] r) := by simp [Lib.joinTail]
theorem join_loop (L : List ByteArray) (hL : ∀ x ∈ L, x.size ≤ 1000) (hn : L.length ≤ 1000) : ∀ (m i : Nat) (acc : ByteArray), i + m = L.length → 0 < i → acc.size + m * 1100 < 1099511627776 →
 Ev (fun k => spec_l1Join.l0 k acc L (L.length : Int) (i : Int)) (mkB (acc.data.toList ++ Lib.joinTail [46] ((L.drop i).map (·.data.toList))))
 | 0, i, acc, him, hi, ha => by
  refine Ev.step (f := fun _ => some acc) (fun k => ?_) ?_
  · show spec_l1Join.l0 (k + 1) acc L (L.length : Int) (i : Int) = _
    conv => lhs; unfold spec_l1Join.l0
    rw [if_neg (by omega)]
  · rw [List.drop_of_length_le (by omega)]
    simp only [List.map_nil, show Lib.joinTail [46] ([] : List (List UInt8)) = [] from rfl, List.append_nil, data_mkB]
    exact Ev.now _
 | m + 1, i, acc, him, hi, ha => by
  have hil : i < L.length := by omega
  have hrd : rdOf ByteArray.empty L (i : Int) = L[i] := by
   unfold rdOf
   rw [Int.toNat_natCast, List.getD_eq_getElem?_getD, List.getElem?_eq_getElem hil]
   rfl
  have hsz := hL _ (List.getElem_mem hil)
  have h46 : (⟨#[46]⟩ : ByteArray).size = 1 := rfl
  have ih := join_loop L hL hn m (i + 1) ((acc ++ (⟨#[46]⟩ : ByteArray)) ++ L[i]) (by omega) (by omega) (by rw [ByteArray.size_append, ByteArray.size_append, h46]; omega)
  have e : acc.data.toList ++ Lib.joinTail [46] ((L.drop i).map (·.data.toList)) = ((acc ++ (⟨#[46]⟩ : ByteArray)) ++ L[i]).data.toList ++ Lib.joinTail [46] ((L.drop (i + 1)).map (·.data.toList)) := by
   rw [List.drop_eq_getElem_cons hil, List.map_cons, tail_cons]
   simp [ByteArray.data_append]
  rw [e]
  refine Ev.step (fun k => ?_) ih
  show spec_l1Join.l0 (k + 1) acc L (L.length : Int) (i : Int) = _
  conv => lhs; unfold spec_l1Join.l0
  rw [if_pos (by omega), if_pos (by omega), if_pos (by omega), if_pos (by omega), hrd, if_pos (by omega), if_pos (by rw [ByteArray.size_append, h46]; omega), w64n (by omega)]
theorem join_ev (L : List ByteArray) (hL : ∀ x ∈ L, x.size ≤ 1000) (hn : L.length ≤ 1000) : Ev (fun k => spec_l1Join.f k L) (mkB (joinL L)) := by
 cases L with
 | nil =>
  refine Ev.of (fun k => spec_l1Join.mono _ _) (k := 1) ?_
  unfold spec_l1Join.f
  conv => lhs; unfold spec_l1Join.l0
  rw [if_neg (by simp)]
  rfl
 | cons x r =>
  have hx := hL x List.mem_cons_self
  have h0 : (⟨#[]⟩ : ByteArray) ++ x = x := by apply ext_data; simp [ByteArray.data_append]
  have := join_loop (x :: r) hL hn r.length 1 x (by simp; omega) (by omega) (by simp at hn; omega)
  have e : joinL (x :: r) = x.data.toList ++ Lib.joinTail [46] (((x :: r).drop 1).map (·.data.toList)) := by
   unfold joinL
   rw [List.map_cons, Lib.join_cons]
   rfl
  rw [e]
  refine Ev.congr (fun k => rfl) (Ev.step (fun k => ?_) this)
  show spec_l1Join.l0 (k + 1) (⟨#[]⟩ : ByteArray) (x :: r) ((x :: r).length : Int) 0 = _
  conv => lhs; unfold spec_l1Join.l0
  have hrd : rdOf ByteArray.empty (x :: r) 0 = x := rfl
  have hz : (⟨#[]⟩ : ByteArray).size = 0 := rfl
  rw [if_pos (by simp only [List.length_cons]; omega), if_pos (by omega), if_pos (by simp only [List.length_cons]; omega), if_neg (by omega), hrd, if_pos (by rw [hz]; omega), h0, show wrap64 ((0 : Int) + 1) = ((1 : Nat) : Int) by unfold wrap64; omega]
def smB (x : ByteArray) : ByteArray := mkB (x.data.toList.map lowB)
def InvL (L : List ByteArray) : Prop := ∀ x ∈ L, 1 ≤ x.size ∧ x.size ≤ 20 ∧ ∀ y ∈ x.data.toList, y ≠ 46
theorem low46 (b : UInt8) : lowB b = 46 ↔ b = 46 := by
 have : ∀ n : Fin 256, lowB (UInt8.ofFin n) = 46 ↔ UInt8.ofFin n = 46 := by decide +kernel
 exact this b.toFin
theorem joinL_low (L : List ByteArray) : joinL (L.map smB) = (joinL L).map lowB := by
 have ht : ∀ r : List ByteArray, Lib.joinTail [46] ((r.map smB).map (·.data.toList)) = (Lib.joinTail [46] (r.map (·.data.toList))).map lowB := by
  intro r
  induction r with
  | nil => rfl
  | cons y r ih =>
   rw [List.map_cons, List.map_cons, List.map_cons, tail_cons, tail_cons, ih]
   simp [smB, mkB_data, (low46 46).2 rfl]
 unfold joinL
 cases L with
 | nil => rfl
 | cons x r =>
  rw [List.map_cons, List.map_cons, List.map_cons, Lib.join_cons, Lib.join_cons, ht, List.map_append]
  simp [smB, mkB_data]
theorem split_join (L : List (List UInt8)) (hne : L ≠ []) (h : ∀ x ∈ L, ∀ y ∈ x, y ≠ 46) : splitL 46 (Lib.join L [46]) = L := by
 induction L with
 | nil => exact absurd rfl hne
 | cons x r ih =>
  rw [Lib.join_cons]
  cases r with
  | nil =>
   rw [show Lib.joinTail [46] ([] : List (List UInt8)) = [] from rfl, List.append_nil]
   exact splitL_none 46 x (h x List.mem_cons_self)
  | cons y r =>
   rw [tail_cons, splitL_hit 46 x _ (h x List.mem_cons_self), ← Lib.join_cons, ih (by simp) fun z hz => h z (List.mem_cons_of_mem _ hz)]
theorem fin_eq (L : List ByteArray) (hI : InvL L) : foldR (mkB (joinL L)) = nameR (L.map smB) := by
 unfold foldR nameR
 rw [mkB_data, mkB_size, joinL_low]
 have key : goodL ((joinL L).map lowB) = true → (joinL L).length ≤ 60 ∧ (decide ((L.map smB).length ≤ 8) && (L.map smB).all (fun x => isLabelL x.data.toList)) = true := by
  intro hg
  have h1 := good_size hg
  rw [List.length_map] at h1
  refine ⟨h1, ?_⟩
  unfold goodL at hg
  have hl : labelsL ((joinL L).map lowB) = (L.map smB).map (·.data.toList) := by
   cases L with
   | nil => rfl
   | cons x r =>
    have hx := hI x List.mem_cons_self
    have hne : (joinL (x :: r)).map lowB ≠ [] := by
     unfold joinL
     rw [List.map_cons, Lib.join_cons]
     intro e
     have e2 := congrArg List.length e
     rw [List.length_map, List.length_append, ← size_len, List.length_nil] at e2
     have := hx.1
     omega
    unfold labelsL
    rw [if_neg hne, ← joinL_low]
    unfold joinL
    refine split_join _ (by simp) ?_
    intro z hz y hy
    obtain ⟨q, hq, rfl⟩ := List.mem_map.1 hz
    obtain ⟨q2, hq2, rfl⟩ := List.mem_map.1 hq
    simp only [smB, mkB_data] at hy
    obtain ⟨b, hb, rfl⟩ := List.mem_map.1 hy
    rw [Ne, low46]
    exact (hI q2 hq2).2.2 b hb
  rw [hl] at hg
  simp only [Bool.and_eq_true, List.length_map, List.all_map] at hg ⊢
  exact hg.2
 by_cases hg : goodL ((joinL L).map lowB) = true
 · obtain ⟨h1, h2⟩ := key hg
   rw [if_pos h1, if_pos hg, if_pos h2]
 · rw [if_neg hg]
   split <;> split <;> rfl
section
variable (s : ByteArray) (hs : s.size ≤ 600)
include hs
theorem doomed : ∀ (n a : Nat) (L : List ByteArray) (p : List Int) (le : Nat) (e : Int), le * 10 + (9 - L.length) ≤ n → L.length ≤ 9 → p.length ≤ L.length → (∃ x ∈ L, isLabelL x.data.toList = false) →
 ∃ r, Ev (fun k => impl_takeName.l0 k s (a : Int) L p (le : Int) e) r ∧ r.2.2.2 = false
 | n, a, L, p, le, e, hn, hL, hp, hx => by
  by_cases ho : s.size ≤ a ∨ 8 < L.length
  · exact ⟨failI, Ev.of (fun k => (impl_takeName.mono_l k).1 _ _ _ _ _ _) (impl_out s hs 0 a L p le e ho), rfl⟩
  · have h1 : a < s.size := by omega
    have h2 : L.length ≤ 8 := by omega
    by_cases v0 : byteAt s a = 0
    · refine ⟨_, Ev.of (fun k => (impl_takeName.mono_l k).1 _ _ _ _ _ _) (impl_end s hs 0 a L p le e h1 h2 v0), ?_⟩
      unfold nameR
      have hall : L.all (fun x => isLabelL x.data.toList) = false := by
       obtain ⟨x, hx1, hx2⟩ := hx
       rw [List.all_eq_false]
       exact ⟨x, hx1, by rw [hx2]; simp⟩
      rw [hall, Bool.and_false, if_neg (by simp)]
    · by_cases v1 : 192 ≤ byteAt s a
      · by_cases h3 : a + 1 < s.size
        · by_cases hle : ((ptrOf s a : Nat) : Int) ≥ (le : Int)
          · exact ⟨failI, Ev.of (fun k => (impl_takeName.mono_l k).1 _ _ _ _ _ _) ((impl_ptr s hs 0 a L p le e h1 h2 v1 h3).trans (if_pos hle)), rfl⟩
          · obtain ⟨r, g1, g2⟩ := doomed (n - 10) (ptrOf s a) L p (ptrOf s a) (endOf e (a + 2)) (by omega) hL hp hx
            exact ⟨r, Ev.step (fun k => rfl) (Ev.step (g := fun k => impl_takeName.l0 (k + 1) s (a : Int) L p (le : Int) e) (fun k => (impl_ptr s hs k a L p le e h1 h2 v1 h3).trans (if_neg hle)) g1), g2⟩
        · exact ⟨failI, Ev.of (fun k => (impl_takeName.mono_l k).1 _ _ _ _ _ _) (impl_ptr_out s hs 0 a L p le e h1 h2 v1 (by omega)), rfl⟩
      · by_cases h3 : 64 ≤ byteAt s a ∨ s.size < a + 1 + byteAt s a
        · exact ⟨failI, Ev.of (fun k => (impl_takeName.mono_l k).1 _ _ _ _ _ _) (impl_lab_out s hs 0 a L p le e h1 h2 (by omega) (by omega) h3), rfl⟩
        · obtain ⟨r, g1, g2⟩ := doomed (n - 1) (a + 1 + byteAt s a) (L ++ [mkB (((s.data.toList.drop (a + 1)).take (byteAt s a)).map lowB)]) (plc e p a) le e (by simp; omega) (by simp; omega) (by unfold plc; split <;> simp <;> omega) (by
           obtain ⟨x, hx1, hx2⟩ := hx
           exact ⟨x, List.mem_append_left _ hx1, hx2⟩)
          exact ⟨r, Ev.step (fun k => rfl) (Ev.step (fun k => rfl) (Ev.step (g := fun k => impl_takeName.l0 (k + 2) s (a : Int) L p (le : Int) e) (fun k => impl_lab s hs k a L p le e h1 h2 (by omega) (by omega) (by omega) (by omega)) g1)), g2⟩
 termination_by n => n
 decreasing_by all_goals omega
theorem sync : ∀ (n a : Nat) (L : List ByteArray) (p : List Int) (le : Nat) (e : Int) (a0 : Nat), le * 10 + (9 - L.length) ≤ n → L.length ≤ 9 → p.length ≤ L.length → InvL L → (e < 0 → a0 ≤ a) → (0 ≤ e → (a0 : Int) < e ∧ e ≤ (s.size : Int)) →
 ∃ r r', Ev (fun k => spec_l2Take.l0 k s (a : Int) L p (le : Int) e) r ∧ Ev (fun k => impl_takeName.l0 k s (a : Int) (L.map smB) p (le : Int) e) r' ∧ r.2.2.2 = r'.2.2.2 ∧
  (r.2.2.2 = true → r.1 = r'.1 ∧ r.2.1 = r'.2.2.1 ∧ r.2.2.1 = r'.2.1 ∧ (a0 : Int) < r.2.1 ∧ r.2.1 ≤ (s.size : Int) ∧ r.2.2.1.length ≤ 9)
 | n, a, L, p, le, e, a0, hn, hL, hp, hI, he1, he2 => by
  have hLs : (L.map smB).length = L.length := List.length_map ..
  by_cases ho : s.size ≤ a ∨ 8 < L.length
  · exact ⟨failS, failI, Ev.of (fun k => (spec_l2Take.mono_l k).1 _ _ _ _ _ _) (spec_out s hs 0 a L p le e ho), Ev.of (fun k => (impl_takeName.mono_l k).1 _ _ _ _ _ _) (impl_out s hs 0 a _ p le e (by omega)), rfl, fun h => by cases h⟩
  · have h1 : a < s.size := by omega
    have h2 : L.length ≤ 8 := by omega
    by_cases v0 : byteAt s a = 0
    · have hi := impl_end s hs 0 a (L.map smB) p le e h1 (by omega) v0
      refine ⟨((foldR (mkB (joinL L))).1, endOf e (a + 1), p, (foldR (mkB (joinL L))).2), _, ?_, Ev.of (fun k => (impl_takeName.mono_l k).1 _ _ _ _ _ _) hi, by rw [fin_eq L hI], fun _ => ⟨by rw [fin_eq L hI], rfl, rfl, ?_, ?_, by show p.length ≤ 9; omega⟩⟩
      · refine Ev.step (f := fun k => (spec_l1Join.f k L).bind fun t => (spec_FoldName.f t).bind fun bt119 => some (bt119.1, endOf e (a + 1), p, bt119.2)) (fun k => ?_) (Ev.bind (join_ev L (fun x hx => by have := (hI x hx).2.1; omega) (by omega)) (Ev.congr (f := fun _ => some ((foldR (mkB (joinL L))).1, endOf e (a + 1), p, (foldR (mkB (joinL L))).2)) (fun k => by unfold spec_FoldName.f; rfl) (Ev.now _)))
        show spec_l2Take.l0 (k + 1) s (a : Int) L p (le : Int) e = _
        conv => lhs; unfold spec_l2Take.l0
        rw [if_pos (by omega), if_neg (by omega), if_pos (by omega), if_pos (by omega), byteAt_bt, wN _ (by have := byteAt_lt s a; omega), v0, if_neg (by decide), if_pos (by rfl), w64n (by omega)]
        unfold endOf
        by_cases he : e < 0
        · rw [if_pos he, if_pos he]
        · rw [if_neg he, if_neg he]
      · show (a0 : Int) < endOf e (a + 1)
        unfold endOf
        split <;> omega
      · show endOf e (a + 1) ≤ (s.size : Int)
        unfold endOf
        split <;> omega
    · by_cases v1 : 192 ≤ byteAt s a
      · by_cases h3 : a + 1 < s.size
        · by_cases hle : ((ptrOf s a : Nat) : Int) ≥ (le : Int)
          · exact ⟨failS, failI, Ev.of (fun k => (spec_l2Take.mono_l k).1 _ _ _ _ _ _) ((spec_ptr s hs 0 a L p le e h1 h2 v1 h3).trans (if_pos hle)), Ev.of (fun k => (impl_takeName.mono_l k).1 _ _ _ _ _ _) ((impl_ptr s hs 0 a _ p le e h1 (by omega) v1 h3).trans (if_pos hle)), rfl, fun h => by cases h⟩
          · obtain ⟨r, r', g1, g2, g3⟩ := sync (n - 10) (ptrOf s a) L p (ptrOf s a) (endOf e (a + 2)) a0 (by omega) hL hp hI (by unfold endOf; split <;> omega) (by unfold endOf; split <;> omega)
            exact ⟨r, r', Ev.step (fun k => (spec_ptr s hs k a L p le e h1 h2 v1 h3).trans (if_neg hle)) g1, Ev.step (fun k => rfl) (Ev.step (g := fun k => impl_takeName.l0 (k + 1) s (a : Int) (L.map smB) p (le : Int) e) (fun k => (impl_ptr s hs k a _ p le e h1 (by omega) v1 h3).trans (if_neg hle)) g2), g3⟩
        · exact ⟨failS, failI, Ev.of (fun k => (spec_l2Take.mono_l k).1 _ _ _ _ _ _) (spec_ptr_out s hs 0 a L p le e h1 h2 v1 (by omega)), Ev.of (fun k => (impl_takeName.mono_l k).1 _ _ _ _ _ _) (impl_ptr_out s hs 0 a _ p le e h1 (by omega) v1 (by omega)), rfl, fun h => by cases h⟩
      · have hlb : ∀ (g : s.size ≥ a + 1 + byteAt s a), (rawL s a).length = byteAt s a := fun g => by unfold rawL; rw [List.length_take, List.length_drop, ← size_len]; omega
        by_cases h3 : 64 ≤ byteAt s a ∨ s.size < a + 1 + byteAt s a
        · exact ⟨failS, failI, Ev.of (fun k => (spec_l2Take.mono_l k).1 _ _ _ _ _ _) (spec_lab_out s hs 0 a L p le e h1 h2 (by omega) (by omega) (by omega)), Ev.of (fun k => (impl_takeName.mono_l k).1 _ _ _ _ _ _) (impl_lab_out s hs 0 a _ p le e h1 (by omega) (by omega) (by omega) h3), rfl, fun h => by cases h⟩
        · have hlen := hlb (by omega)
          have himpl : ∀ r, Ev (fun k => impl_takeName.l0 k s ((a + 1 + byteAt s a : Nat) : Int) (L.map smB ++ [mkB ((rawL s a).map lowB)]) (plc e p a) (le : Int) e) r → Ev (fun k => impl_takeName.l0 k s (a : Int) (L.map smB) p (le : Int) e) r := fun r g2 =>
           Ev.step (fun k => rfl) (Ev.step (fun k => rfl) (Ev.step (g := fun k => impl_takeName.l0 (k + 2) s (a : Int) (L.map smB) p (le : Int) e) (fun k => impl_lab s hs k a _ p le e h1 (by omega) (by omega) (by omega) (by omega) (by omega)) g2))
          have hpl : (plc e p a).length ≤ L.length + 1 := by
           unfold plc
           split
           · rw [List.length_append, List.length_singleton]; omega
           · omega
          have doom : isLabelL ((rawL s a).map lowB) = false → ∃ r, Ev (fun k => impl_takeName.l0 k s (a : Int) (L.map smB) p (le : Int) e) r ∧ r.2.2.2 = false := by
           intro hb
           obtain ⟨r, g1, g2⟩ := doomed s hs (n - 1) (a + 1 + byteAt s a) (L.map smB ++ [mkB ((rawL s a).map lowB)]) (plc e p a) le e (by simp; omega) (by simp; omega) (by simp; omega) ⟨_, List.mem_append_right _ List.mem_cons_self, by rw [mkB_data]; exact hb⟩
           exact ⟨r, himpl r g1, g2⟩
          by_cases h20 : 20 < byteAt s a
          · obtain ⟨r', g1, g2⟩ := doom (by
             rw [Bool.eq_false_iff]
             intro e1
             have := label_size e1
             rw [List.length_map] at this
             omega)
            exact ⟨failS, r', Ev.of (fun k => (spec_l2Take.mono_l k).1 _ _ _ _ _ _) (spec_lab_out s hs 0 a L p le e h1 h2 (by omega) (by omega) (.inl h20)), g1, by rw [g2]; rfl, fun h => by cases h⟩
          · rcases spec_lab s hs a L p le e h1 h2 (by omega) (by omega) (by omega) (by omega) with ⟨f1, y, hy, rfl⟩ | ⟨f1, f2⟩
            · obtain ⟨r', g1, g2⟩ := doom (by
               rw [Bool.eq_false_iff]
               intro e1
               unfold isLabelL at e1
               simp only [Bool.or_eq_true, Bool.and_eq_true, beq_iff_eq, List.all_eq_true] at e1
               have hm : (46 : UInt8) ∈ (rawL s a).map lowB := List.mem_map.2 ⟨46, hy, (low46 46).2 rfl⟩
               rcases e1 with e1 | e1
               · rw [e1] at hm
                 simp at hm
               · exact absurd (e1.2 46 hm) (by decide))
              exact ⟨failS, r', f1, g1, by rw [g2]; rfl, fun h => by cases h⟩
            · obtain ⟨r, r', g1, g2, g3⟩ := sync (n - 1) (a + 1 + byteAt s a) (L ++ [mkB (rawL s a)]) (plc e p a) le e a0 (by simp; omega) (by simp; omega) (by simp; omega) (by
               intro x hx
               rcases List.mem_append.1 hx with hx | hx
               · exact hI x hx
               · obtain rfl := List.mem_singleton.1 hx
                 rw [mkB_size, mkB_data]
                 exact ⟨by omega, by omega, f1⟩) (by omega) he2
              refine ⟨r, r', f2 r g1, himpl r' ?_, g3⟩
              rw [List.map_append] at g2
              have e1 : [mkB (rawL s a)].map smB = [mkB ((rawL s a).map lowB)] := by simp [smB, mkB_data]
              rw [e1] at g2
              exact g2
 termination_by n => n
 decreasing_by all_goals omega
theorem take_both (a : Nat) (ha : a ≤ s.size) : ∃ r r', Ev (fun k => spec_l2Take.f k s (a : Int)) r ∧ Ev (fun k => impl_takeName.f k s (a : Int)) r' ∧ r.2.2.2 = r'.2.2.2 ∧
 (r.2.2.2 = true → r.1 = r'.1 ∧ r.2.1 = r'.2.2.1 ∧ r.2.2.1 = r'.2.1 ∧ (a : Int) < r.2.1 ∧ r.2.1 ≤ (s.size : Int) ∧ r.2.2.1.length ≤ 9) :=
 sync s hs (a * 10 + 9) a [] [] a (-1) a (by simp) (by simp) (by simp) (fun x hx => by cases hx) (fun _ => Nat.le_refl _) (fun h => by omega)
end
end Go.Proofs.YtiegkjimpclmaaaGreatDoor.Pure
namespace Go.Proofs.YtiegkjimpclmaaaGreatDoor.Pure
open Go.RowKit Go.Proofs.YtiegkjimpclmaaaGreatDoor.P Go.Proofs.YtiegkjimpclmaaaGreatDoorW.PrintWords Go.Proofs.YtiegkjimpclmaaaGreatDoorW.PrintLast Go.Proofs.YtiegkjimpclmaaaGreatDoorW.PrintMore
set_option linter.unusedVariables false
set_option linter.unusedSimpArgs false
theorem a_small : ∀ (k i : Nat) (parts : List ByteArray) (out x : ByteArray), impl_DataBytes.l0 k parts out (i : Int) = some (x, true) → (∀ y ∈ parts, y.size ≤ 1048576) → parts.length < 1099511627776 → (i < parts.length → parts.length = 4) ∧ ∀ j (h : j < parts.length), i ≤ j → parts[j].size ≤ 10
 | 0, i, parts, out, x, h, hs, hl => by simp [impl_DataBytes.l0] at h
 | k + 1, i, parts, out, x, h, hs, hl => by
  unfold impl_DataBytes.l0 at h
  by_cases c1 : (i : Int) < (parts.length : Int)
  · have hi : i < parts.length := by omega
    have hsz := hs _ (List.getElem_mem hi)
    obtain ⟨v, hn1, hn2⟩ := number_eq parts[i] 255 (by omega) (by omega) (by omega)
    rw [if_pos c1, if_pos (by omega), td_rd parts i hi, hn1, Option.bind_some] at h
    by_cases hb : (canL parts[i].data.toList && decide ((valL parts[i].data.toList : Int) ≤ 255)) = true
    · rw [if_pos hb] at h
      by_cases h4 : (parts.length : Int) = 4
      · rw [if_pos h4] at h
        obtain ⟨t, ht, h⟩ := Option.bind_eq_some_iff.mp h
        by_cases ho : out.size + t.size ≤ 9223372036854775807
        · rw [if_pos ho, w64n (by omega)] at h
          have ih := a_small k (i + 1) parts _ x h hs hl
          refine ⟨fun _ => by omega, fun j hj hij => ?_⟩
          by_cases e : j = i
          · subst e
            rw [Bool.and_eq_true] at hb
            have hc := hb.1
            unfold canL at hc
            simp only [Bool.and_eq_true, decide_eq_true_eq] at hc
            rw [size_len]
            exact hc.1.1.2
          · exact ih.2 j hj (by omega)
        · rw [if_neg ho] at h; cases h
      · rw [if_neg h4] at h
        cases (Prod.mk.inj (Option.some.inj h)).2
    · rw [if_neg hb] at h
      cases (Prod.mk.inj (Option.some.inj h)).2
  · exact ⟨fun h2 => absurd h2 (by omega), fun j hj hij => absurd hj (by omega)⟩
theorem sum_le : ∀ l : List (List UInt8), (∀ p ∈ l, p.length ≤ 10) → (l.map fun p => 1 + p.length).sum ≤ 11 * l.length
 | [], _ => Nat.le_refl _
 | x :: r, h => by
  have ih := sum_le r fun p hp => h p (List.mem_cons_of_mem _ hp)
  have hx := h x List.mem_cons_self
  rw [List.map_cons, List.sum_cons, List.length_cons]
  omega
theorem can_len {l : List UInt8} {m : Int} (h : (canL l && decide ((valL l : Int) ≤ m)) = true) : l.length ≤ 10 := by
 rw [Bool.and_eq_true] at h
 have hc := h.1
 unfold canL at hc
 simp only [Bool.and_eq_true, decide_eq_true_eq] at hc
 exact hc.1.1.2
theorem cut_sizes {s q1 q2 : ByteArray} {q3 : Bool} (hs : s.size ≤ 1048576) (h : strings_Cut.f s (⟨#[32]⟩ : ByteArray) = some (q1, q2, q3)) : q1.size + q2.size ≤ s.size ∧ s.size ≤ q1.size + q2.size + 1 := by
 unfold strings_Cut.f stringslite_Cut.f internal_stringslite_Index.f at h
 rw [if_pos (show (⟨#[32]⟩ : ByteArray).size = 1 from rfl)] at h
 simp only [Option.bind_some] at h
 rw [show List.headD (⟨#[32]⟩ : ByteArray).data.toList 0 = 32 from rfl, show (⟨#[32]⟩ : ByteArray).size = 1 from rfl] at h
 rcases place_or 32 s.data.toList with ⟨h1, _⟩ | ⟨p, r, h1, _, h3⟩
 · rw [h1, if_neg (by omega)] at h
   simp only [Option.bind_some, Option.some.injEq, Prod.mk.injEq] at h
   obtain ⟨rfl, rfl, _⟩ := h
   exact ⟨Nat.le_refl _, by show s.size ≤ s.size + 0 + 1; omega⟩
 · have hl : p.length + (r.length + 1) = s.size := by rw [size_len, h1]; simp
   rw [h3, show (((1 : Nat) : Int)) = 1 from rfl, w64n (by omega), if_pos (by omega), if_pos (by omega), if_pos (by omega), if_pos (by omega), if_pos (by omega), Int.toNat_natCast, Int.toNat_natCast] at h
   simp only [Option.bind_some, Option.some.injEq, Prod.mk.injEq] at h
   obtain ⟨rfl, rfl, _⟩ := h
   rw [ByteArray.size_extract, ByteArray.size_extract]
   omega
theorem data_small {k : Nat} {kind : Int} {s x : ByteArray} (hs : s.size ≤ 1048576) (h : impl_DataBytes.f k kind s = some (x, true)) : s.size ≤ 100 := by
 unfold impl_DataBytes.f at h
 by_cases c1 : kind = 1
 · rw [if_pos c1] at h
   have hsp : strings_Split.f s (⟨#[46]⟩ : ByteArray) = some ((splitL 46 s.data.toList).map mkB) := by
    unfold strings_Split.f
    rw [if_pos (show (⟨#[46]⟩ : ByteArray).size = 1 from rfl), if_pos (by omega)]
    rfl
   rw [hsp, Option.bind_some] at h
   have hne := splitL_ne 46 s.data.toList
   have hpl : 0 < (splitL 46 s.data.toList).length := List.length_pos_iff.2 hne
   have hlen : (splitL 46 s.data.toList).length ≤ s.size + 1 := by rw [size_len]; exact splitL_len _ _
   have hg := a_small k 0 _ _ _ h (by
    intro y hy
    obtain ⟨q, hq, rfl⟩ := List.mem_map.1 hy
    have := splitL_part 46 _ q hq
    rw [← size_len] at this
    rw [mkB_size]
    omega) (by rw [List.length_map]; omega)
   have h4 := hg.1 (by rw [List.length_map]; exact hpl)
   rw [List.length_map] at h4
   have hsum := sum_le (splitL 46 s.data.toList) (by
    intro p hp
    obtain ⟨j, hj, rfl⟩ := List.mem_iff_getElem.1 hp
    have := hg.2 j (by rw [List.length_map]; exact hj) (Nat.zero_le _)
    rw [List.getElem_map, mkB_size] at this
    exact this)
   rw [split_sum, h4, ← size_len] at hsum
   omega
 · rw [if_neg c1] at h
   by_cases c2 : kind = 2 ∨ kind = 5
   · rw [if_pos c2] at h
     unfold dataNs at h
     rw [target_impl, Option.bind_some] at h
     by_cases ht : targL s.data.toList = true
     · have := good_size (targ_good ht)
       rw [← size_len] at this
       omega
     · rw [if_neg ht] at h
       cases (Prod.mk.inj (Option.some.inj h)).2
   · rw [if_neg c2] at h
     by_cases c6 : kind = 6
     · rw [if_pos c6] at h
       unfold dataSoa at h
       obtain ⟨v, hn1, _⟩ := number_eq s 4294967295 (by omega) (by omega) (by omega)
       rw [hn1, Option.bind_some] at h
       by_cases hb : (canL s.data.toList && decide ((valL s.data.toList : Int) ≤ 4294967295)) = true
       · have := can_len hb
         rw [← size_len] at this
         omega
       · rw [if_neg hb] at h
         cases (Prod.mk.inj (Option.some.inj h)).2
     · rw [if_neg c6] at h
       by_cases c15 : kind = 15
       · rw [if_pos c15] at h
         unfold dataMx at h
         obtain ⟨⟨q1, q2, q3⟩, hc, h⟩ := Option.bind_eq_some_iff.mp h
         have hcut : q1.size + q2.size ≤ s.size ∧ s.size ≤ q1.size + q2.size + 1 := cut_sizes hs hc
         obtain ⟨v, hn1, _⟩ := number_eq q1 65535 (by omega) (by omega) (by omega)
         rw [hn1, Option.bind_some] at h
         by_cases hb : (canL q1.data.toList && decide ((valL q1.data.toList : Int) ≤ 65535)) = true
         · rw [if_pos hb, target_impl, Option.bind_some] at h
           by_cases ht : targL q2.data.toList = true
           · have h1 := good_size (targ_good ht)
             have h2 := can_len hb
             rw [← size_len] at h1 h2
             omega
           · rw [if_neg ht] at h
             cases (Prod.mk.inj (Option.some.inj h)).2
         · rw [if_neg hb] at h
           cases (Prod.mk.inj (Option.some.inj h)).2
       · rw [if_neg c15] at h
         by_cases c16 : kind = 16
         · rw [if_pos c16] at h
           unfold dataTxt at h
           by_cases h30 : (s.size : Int) > 30
           · rw [if_pos h30] at h
             cases (Prod.mk.inj (Option.some.inj h)).2
           · omega
         · rw [if_neg c16] at h
           cases (Prod.mk.inj (Option.some.inj h)).2
theorem data_full (kind : Int) (s : ByteArray) (hs : s.size ≤ 1048576) : ∃ q, Ev (fun k => spec_l3Bytes.f k kind s) q ∧ Ev (fun k => impl_DataBytes.f k kind s) (if q.2 = true then (q.1, true) else badD) ∧ (q.2 = true → s.size ≤ 100) := by
 obtain ⟨r, ⟨K, h1⟩, h2⟩ := data_both kind s hs
 have h1 : specData K kind s = some r := h1 K (Nat.le_refl _)
 unfold specData at h1
 obtain ⟨q, hq, h1⟩ := Option.bind_eq_some_iff.mp h1
 have hQ : Ev (fun k => spec_l3Bytes.f k kind s) q := Ev.of (fun k => spec_l3Bytes.mono _ _ _) (k := K) hq
 have er : (if q.2 = true then (q.1, true) else badD) = r := by
  by_cases hq2 : q.2 = true
  · rw [if_pos hq2] at h1 ⊢
    exact Option.some.inj h1
  · rw [if_neg hq2] at h1 ⊢
    exact Option.some.inj h1
 refine ⟨q, hQ, by rw [er]; exact h2, fun hq2 => ?_⟩
 rw [if_pos hq2] at er
 obtain ⟨K2, h2⟩ := h2
 have h3 : impl_DataBytes.f K2 kind s = some r := h2 K2 (Nat.le_refl _)
 rw [← er] at h3
 exact data_small hs h3
theorem goodrec_both (a : ByteArray) (b c : Int) (d : ByteArray) (ha : a.size ≤ 1048576) (hd : d.size ≤ 1048576) : ∃ r q, Ev (fun k => spec_GoodRecord.f k a b c d) r ∧ Ev (fun k => impl_GoodRecord.f k a b c d) r ∧ Ev (fun k => spec_l3Bytes.f k b d) q ∧ Ev (fun k => impl_DataBytes.f k b d) (if q.2 = true then (q.1, true) else badD) ∧ r = (q.2 && (goodL a.data.toList && decide (0 ≤ c ∧ c ≤ 100000))) ∧ (q.2 = true → d.size ≤ 100) := by
 obtain ⟨q, q1, q2, q3⟩ := data_full b d hd
 refine ⟨q.2 && (goodL a.data.toList && decide (0 ≤ c ∧ c ≤ 100000)), q, ?_, ?_, q1, q2, rfl, q3⟩
 · refine Ev.congr (fun k => rfl) (Ev.bind q1 ?_)
   cases hq : q.2 with
   | false => exact Ev.now _
   | true =>
    refine Ev.bind (specGood_ev a (by omega)) ?_
    cases hg : goodL a.data.toList with
    | false => exact Ev.now _
    | true =>
     simp only [if_true, within_spec, Option.bind_some, Bool.true_and]
     exact Ev.now _
 · cases hg : goodL a.data.toList with
   | false =>
    rw [Bool.false_and, Bool.and_false]
    refine Ev.congr (fun k => ?_) (Ev.now _)
    unfold impl_GoodRecord.f impl_GoodName.f
    rw [hg]
    rfl
   | true =>
    by_cases hc : 0 ≤ c ∧ c ≤ 100000
    · rw [decide_eq_true hc, Bool.true_and, Bool.and_true]
      by_cases h100 : (d.size : Int) > 100
      · have hf : q.2 = false := by
         rw [Bool.eq_false_iff]
         intro h
         have := q3 h
         omega
        rw [hf]
        refine Ev.congr (fun k => ?_) (Ev.now _)
        unfold impl_GoodRecord.f impl_GoodName.f
        rw [hg, Option.bind_some, if_pos rfl, within_eq, Option.bind_some, decide_eq_true hc, if_pos rfl, if_pos h100]
      · refine Ev.congr (f := fun k => (impl_DataBytes.f k b d).bind fun bt237 => (some bt237.2)) (fun k => ?_) (Ev.bind q2 ?_)
        · unfold impl_GoodRecord.f impl_GoodName.f
          rw [hg, Option.bind_some, if_pos rfl, within_eq, Option.bind_some, decide_eq_true hc, if_pos rfl, if_neg h100]
        · cases q.2 with
          | false => exact Ev.now _
          | true => exact Ev.now _
    · rw [decide_eq_false hc, Bool.and_false, Bool.and_false]
      refine Ev.congr (fun k => ?_) (Ev.now _)
      unfold impl_GoodRecord.f impl_GoodName.f
      rw [hg, Option.bind_some, if_pos rfl, within_eq, Option.bind_some, decide_eq_false hc, if_neg (by simp)]
theorem data_kind {k : Nat} {kind : Int} {s x : ByteArray} (h : impl_DataBytes.f k kind s = some (x, true)) : 1 ≤ kind ∧ kind ≤ 16 := by
 unfold impl_DataBytes.f at h
 by_cases c : 1 ≤ kind ∧ kind ≤ 16
 · exact c
 · rw [if_neg (by omega), if_neg (by omega), if_neg (by omega), if_neg (by omega), if_neg (by omega)] at h
   cases (Prod.mk.inj (Option.some.inj h)).2
theorem good_parts (a : ByteArray) (b c : Int) (d : ByteArray) (ha : a.size ≤ 1048576) (hd : d.size ≤ 1048576) (h : Ev (fun k => impl_GoodRecord.f k a b c d) true) : a.size ≤ 60 ∧ goodL a.data.toList = true ∧ (1 ≤ b ∧ b ≤ 16) ∧ (0 ≤ c ∧ c ≤ 100000) ∧ d.size ≤ 100 := by
 obtain ⟨r, q, r1, r2, q1, ⟨K, q2⟩, hr, hs⟩ := goodrec_both a b c d ha hd
 have e := Ev.unique h r2
 subst e
 have hr := hr.symm
 rw [Bool.and_eq_true, Bool.and_eq_true, decide_eq_true_eq] at hr
 have hK : impl_DataBytes.f K b d = some (if q.2 = true then (q.1, true) else badD) := q2 K (Nat.le_refl _)
 rw [if_pos hr.1] at hK
 have := good_size hr.2.1
 rw [← size_len] at this
 exact ⟨this, hr.2.1, data_kind hK, hr.2.2, hs hr.1⟩
end Go.Proofs.YtiegkjimpclmaaaGreatDoor.Pure
