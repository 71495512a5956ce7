/- FnExactRecordsOf: part 27 of 28 of my texts for this claim, joined; the theorem stands in the last. Conditions: none beyond the statement's. -/
import Derived.Test.YtiegkjimpclmaaaGreatDoorMFnExactRecordsOfx25
namespace Go.Proofs.YtiegkjimpclmaaaGreatDoor.Pure
open Go.RowKit Go.Proofs.YtiegkjimpclmaaaGreatDoor.P Go.Proofs.YtiegkjimpclmaaaGreatDoorW.PrintWords Go.Proofs.YtiegkjimpclmaaaGreatDoorW.PrintLast Go.Proofs.YtiegkjimpclmaaaGreatDoorW.PrintMore
set_option linter.unusedVariables false
set_option linter.unusedSimpArgs false
abbrev LSetP := S82
def convS (x : LSetP) : SSet := ⟨x.f0, x.f1, x.f2, x.f3⟩
theorem rdLS (l : List LSetP) (i : Nat) (h : i < l.length) : rd_T82 l (i : Int) = l[i] := by
 unfold rd_T82
 rw [Int.toNat_natCast, List.getD_eq_getElem?_getD, List.getElem?_eq_getElem h, Option.getD_some]
theorem rdSS (l : List SSet) (i : Nat) (h : i < l.length) : rd_T83 l (i : Int) = l[i] := by
 unfold rd_T83
 rw [Int.toNat_natCast, List.getD_eq_getElem?_getD, List.getElem?_eq_getElem h, Option.getD_some]
def cnt (l : List LSetP) : Nat := (l.map fun s => s.f3.length).sum
def cntS (l : List SSet) : Nat := (l.map fun s => s.f3.length).sum
theorem cnt_cons (x : LSetP) (l : List LSetP) : cnt (x :: l) = x.f3.length + cnt l := by simp [cnt]
theorem cntS_cons (x : SSet) (l : List SSet) : cntS (x :: l) = x.f3.length + cntS l := by simp [cntS]
theorem szT_loop (l : List ByteArray) (hs : ∀ x ∈ l, x.size ≤ maxLen) (hl : l.length < 1099511627776) : ∀ (m i : Nat) (left : Int), i + m = l.length → 0 ≤ left → left ≤ 1048576 →
 ∃ t, laws_szStringS.l0 (m + 1) l left (i : Int) = some t ∧ t ≤ left ∧ (0 ≤ t → ∀ j, i ≤ j → ∀ h : j < l.length, l[j].size ≤ 1048576)
 | 0, i, left, him, h0, h1 => by
  refine ⟨left, ?_, Int.le_refl _, fun _ j hj h => by omega⟩
  unfold laws_szStringS.l0
  rw [if_neg (by omega)]
 | m + 1, i, left, him, h0, h1 => by
  have hi : i < l.length := by omega
  have hsz := hs _ (List.getElem_mem hi)
  simp only [maxLen] at hsz
  have hw : wrap64 (left - (l[i].size : Int)) = left - (l[i].size : Int) := by unfold wrap64; omega
  have hrd : rdOf ByteArray.empty l (i : Int) = l[i] := mS_rd l i hi
  by_cases hn : left - (l[i].size : Int) < 0
  · refine ⟨-1, ?_, by omega, fun h => by omega⟩
    unfold laws_szStringS.l0
    rw [if_pos (by omega), if_pos (by omega), hrd, hw, if_pos hn]
  · obtain ⟨t, g1, g0, g2⟩ := szT_loop l hs hl m (i + 1) (left - (l[i].size : Int)) (by omega) (by omega) (by omega)
    refine ⟨t, ?_, by omega, fun ht j hj h => ?_⟩
    · unfold laws_szStringS.l0
      rw [if_pos (by omega), if_pos (by omega), hrd, hw, if_neg hn, mS_w (by omega), g1]
    · by_cases e : j = i
      · subst e; omega
      · exact g2 ht j (by omega) h
theorem szT_at (l : List ByteArray) (left : Int) (h0 : 0 ≤ left) (h1 : left ≤ 1048576) (hs : ∀ x ∈ l, x.size ≤ maxLen) (hl : l.length ≤ maxLen) : ∃ t, Ev (fun k => laws_szStringS.f k l left) t ∧ t ≤ left ∧ (0 ≤ t → t + l.length ≤ left ∧ ∀ x ∈ l, Small x) := by
 simp only [maxLen] at hl
 have hw : wrap64 (left - (l.length : Int)) = left - (l.length : Int) := by unfold wrap64; omega
 by_cases hn : left - (l.length : Int) < 0
 · refine ⟨-1, Ev.congr (fun k => ?_) (Ev.now _), by omega, fun h => by omega⟩
   unfold laws_szStringS.f
   rw [hw, if_pos hn]
 · obtain ⟨t, g1, g0, g2⟩ := szT_loop l hs (by omega) l.length 0 (left - (l.length : Int)) (by omega) (by omega) (by omega)
   refine ⟨t, Ev.of (fun k => laws_szStringS.mono _ _ _) (k := l.length + 1) ?_, by omega, fun ht => ⟨by omega, fun x hx => ?_⟩⟩
   · unfold laws_szStringS.f
     rw [hw, if_neg hn]
     exact g1
   · obtain ⟨j, hj, rfl⟩ := List.mem_iff_getElem.1 hx
     exact g2 ht j (by omega) hj
theorem szSet_at (a : ByteArray) (b c : Int) (l : List ByteArray) (left : Int) (h0 : 0 ≤ left) (h1 : left ≤ 1048576) (ha : a.size ≤ maxLen) (hl : l.length ≤ maxLen) (hs : ∀ x ∈ l, x.size ≤ maxLen) :
 ∃ t, Ev (fun k => laws_szSet.f k a b c l left) t ∧ t ≤ left ∧ (0 ≤ t → t + l.length ≤ left ∧ Small a ∧ ∀ x ∈ l, Small x) := by
 simp only [maxLen] at ha
 have hw : wrap64 (left - (a.size : Int)) = left - (a.size : Int) := by unfold wrap64; omega
 by_cases hn : left - (a.size : Int) < 0
 · refine ⟨-1, Ev.congr (fun k => ?_) (Ev.now _), by omega, fun h => by omega⟩
   unfold laws_szSet.f
   rw [hw, if_pos hn]
 · obtain ⟨t, g1, g0, g2⟩ := szT_at l (left - (a.size : Int)) (by omega) (by omega) hs hl
   by_cases ht : t < 0
   · refine ⟨-1, Ev.congr (fun k => by unfold laws_szSet.f; rw [hw, if_neg hn]) (Ev.bind g1 ?_), by omega, fun h => by omega⟩
     simp only [if_pos ht]
     exact Ev.now _
   · obtain ⟨g3, g4⟩ := g2 (by omega)
     refine ⟨t, Ev.congr (fun k => by unfold laws_szSet.f; rw [hw, if_neg hn]) (Ev.bind g1 ?_), by omega, fun _ => ⟨by omega, by unfold Small; omega, g4⟩⟩
     simp only [if_neg ht]
     exact Ev.now _
theorem szSS_loop (l : List LSetP) (hl : l.length < 1099511627776) (hs : ∀ y ∈ l, y.f0.size ≤ maxLen ∧ y.f3.length ≤ maxLen ∧ ∀ z ∈ y.f3, z.size ≤ maxLen) : ∀ (m i : Nat) (left : Int), i + m = l.length → 0 ≤ left → left ≤ 1048576 →
 ∃ t, Ev (fun k => laws_szSetS.l0 k l left (i : Int)) t ∧ (0 ≤ t → t + cnt (l.drop i) ≤ left ∧ ∀ (j : Nat) (h : j < l.length), i ≤ j → Small l[j].f0 ∧ ∀ z ∈ l[j].f3, Small z)
 | 0, i, left, hi, h0, h1 => by
  refine ⟨left, Ev.step (f := fun _ => some left) (fun k => ?_) (Ev.now _), fun _ => ⟨by rw [List.drop_of_length_le (by omega)]; simp [cnt], fun j h hij => absurd h (by omega)⟩⟩
  show laws_szSetS.l0 (k + 1) l left (i : Int) = _
  rw [laws_szSetS.l0, if_neg (by omega)]
 | m + 1, i, left, hi, h0, h1 => by
  have hlt : i < l.length := by omega
  have hx := hs _ (List.getElem_mem hlt)
  obtain ⟨t, e, g0, ht⟩ := szSet_at l[i].f0 l[i].f1 l[i].f2 l[i].f3 left h0 h1 hx.1 hx.2.1 hx.2.2
  have hw : wrap64 ((i : Int) + 1) = ((i + 1 : Nat) : Int) := w64n (by omega)
  have e0 : ∀ k, laws_szSetS.l0 (k + 1) l left (i : Int) = (laws_szSet.f k l[i].f0 l[i].f1 l[i].f2 l[i].f3 left).bind fun t290 => (if t290 < 0 then (some (-1)) else (laws_szSetS.l0 k l t290 ((i + 1 : Nat) : Int))) := fun k => by
   rw [laws_szSetS.l0, if_pos (by omega), if_pos (by omega), rdLS l i hlt, hw]
  by_cases hn : t < 0
  · refine ⟨-1, Ev.step e0 (Ev.bind e ?_), fun h => absurd h (by omega)⟩
    simp only [if_pos hn]; exact Ev.now _
  · obtain ⟨g1, g2, g3⟩ := ht (by omega)
    obtain ⟨t', e', ht'⟩ := szSS_loop l hl hs m (i + 1) t (by omega) (by omega) (by omega)
    refine ⟨t', Ev.step e0 (Ev.bind e ?_), fun h => ?_⟩
    · simp only [if_neg hn]; exact e'
    · obtain ⟨q1, q2⟩ := ht' h
      refine ⟨by rw [List.drop_eq_getElem_cons hlt, cnt_cons]; omega, fun j hj hij => ?_⟩
      by_cases c : j = i
      · subst c; exact ⟨g2, g3⟩
      · exact q2 j hj (by omega)
theorem szSS_ev (l : List LSetP) (hm : l.length ≤ maxLen) (hs : ∀ y ∈ l, y.f0.size ≤ maxLen ∧ y.f3.length ≤ maxLen ∧ ∀ z ∈ y.f3, z.size ≤ maxLen) :
 ∃ t, Ev (fun k => laws_szSetS.f k l 1048576) t ∧ (0 ≤ t → l.length + cnt l ≤ 1048576 ∧ ∀ y ∈ l, Small y.f0 ∧ ∀ z ∈ y.f3, Small z) := by
 simp only [maxLen] at hm
 have hw : wrap64 (1048576 - (l.length : Int)) = 1048576 - (l.length : Int) := by unfold wrap64; omega
 by_cases hn : 1048576 - (l.length : Int) < 0
 · refine ⟨-1, Ev.congr (f := fun _ => some (-1)) (fun k => ?_) (Ev.now _), fun h => absurd h (by omega)⟩
   unfold laws_szSetS.f
   rw [hw, if_pos hn]
 · obtain ⟨t, e, ht⟩ := szSS_loop l (by omega) hs l.length 0 (1048576 - (l.length : Int)) (by omega) (by omega) (by omega)
   refine ⟨t, Ev.congr (fun k => ?_) e, fun h => ?_⟩
   · unfold laws_szSetS.f
     rw [hw, if_neg hn]
     rfl
   · obtain ⟨q1, q2⟩ := ht h
     rw [List.drop_zero] at q1
     refine ⟨by omega, fun y hy => ?_⟩
     obtain ⟨j, hj, rfl⟩ := List.mem_iff_getElem.1 hy
     exact q2 j hj (Nat.zero_le _)
theorem toT_loop (l : List ByteArray) (hl : l.length < 1099511627776) : ∀ (m i : Nat) (x : List ByteArray), i + m = l.length → x.length = l.length → x.take i = l.take i → laws_toStringS.l0 (m + 1) l x (i : Int) = some l
 | 0, i, x, hi, hx, ht => by
  unfold laws_toStringS.l0
  rw [if_neg (by omega)]
  rw [List.take_of_length_le (by omega), List.take_of_length_le (by omega)] at ht
  rw [ht]
 | m + 1, i, x, hi, hx, ht => by
  have hlt : i < l.length := by omega
  have hrd : rdOf ByteArray.empty l (i : Int) = l[i] := mS_rd l i hlt
  unfold laws_toStringS.l0
  rw [if_pos (by omega), if_pos (by omega), if_pos (by omega), hrd, mS_w (by omega), Int.toNat_natCast]
  refine toT_loop l hl m (i + 1) _ (by omega) (by simp [hx]) ?_
  rw [List.take_succ_eq_append_getElem (by simp; omega), List.take_succ_eq_append_getElem hlt, List.take_set_of_le (Nat.le_refl i), ht, List.getElem_set_self]
theorem toT_ev (l : List ByteArray) (hl : l.length ≤ 1048576) : Ev (fun k => laws_toStringS.f k l) l := by
 refine Ev.of (fun k => laws_toStringS.mono _ _) (k := l.length + 1) ?_
 unfold laws_toStringS.f
 rw [if_pos (by omega), Int.toNat_natCast, if_pos (by omega)]
 exact toT_loop l (by omega) l.length 0 _ (by omega) (by simp) (by simp)
theorem toSS_loop (l : List LSetP) (hl : l.length < 1099511627776) (hs : ∀ y ∈ l, y.f3.length ≤ 1048576) : ∀ (m i : Nat) (out : List SSet), i + m = l.length → out = (l.take i).map convS ++ List.replicate m z83 → Ev (fun k => laws_toSetS.l0 k l out (i : Int)) (l.map convS)
 | 0, i, out, hi, ho => by
  refine Ev.step (f := fun _ => some (l.map convS)) (fun k => ?_) (Ev.now _)
  show laws_toSetS.l0 (k + 1) l out (i : Int) = _
  rw [laws_toSetS.l0, if_neg (by omega), ho, List.take_of_length_le (by omega)]
  simp
 | m + 1, i, out, hi, ho => by
  have hlt : i < l.length := by omega
  have hw : wrap64 ((i : Int) + 1) = ((i + 1 : Nat) : Int) := w64n (by omega)
  have hlen : ((l.take i).map convS).length = i := by rw [List.length_map, List.length_take]; omega
  have ih := toSS_loop l hl hs m (i + 1) (out.set i (convS l[i])) (by omega) (by
   rw [ho, List.set_append_right _ _ (by omega), hlen, Nat.sub_self, List.take_succ_eq_append_getElem hlt, List.map_append, List.append_assoc]
   rfl)
  have ho2 : out.length = l.length := by rw [ho, List.length_append, hlen, List.length_replicate]; omega
  have he : Ev (fun k => laws_toSet.f k l[i].f0 l[i].f1 l[i].f2 l[i].f3) (l[i].f0, l[i].f1, l[i].f2, l[i].f3) := Ev.congr (fun k => rfl) (Ev.bind (toT_ev l[i].f3 (hs _ (List.getElem_mem hlt))) (Ev.now _))
  have e0 : ∀ k, laws_toSetS.l0 (k + 1) l out (i : Int) = (laws_toSet.f k l[i].f0 l[i].f1 l[i].f2 l[i].f3).bind fun bt361 => (if (i : Int) < (out.length : Int) then (laws_toSetS.l0 k l (out.set i (⟨bt361.1, bt361.2.1, bt361.2.2.1, bt361.2.2.2⟩ : SSet)) ((i + 1 : Nat) : Int)) else (none)) := fun k => by
   rw [laws_toSetS.l0, if_pos (by omega), if_pos (by omega), rdLS l i hlt, hw, Int.toNat_natCast]
  refine Ev.step e0 (Ev.bind he ?_)
  simp only [if_pos (show (i : Int) < (out.length : Int) by omega)]
  exact ih
theorem toSS_ev (l : List LSetP) (hl : l.length ≤ 1048576) (hs : ∀ y ∈ l, y.f3.length ≤ 1048576) : Ev (fun k => laws_toSetS.f k l) (l.map convS) := by
 refine Ev.congr (fun k => ?_) (toSS_loop l (by omega) hs l.length 0 (List.replicate l.length z83) (by omega) (by simp))
 unfold laws_toSetS.f
 rw [if_pos (by omega), Int.toNat_natCast, if_pos (by omega)]
 rfl
theorem eqSS_loop (l : List SSet) (hl : l.length < 1099511627776) (hs : ∀ y ∈ l, y.f3.length < 1099511627776) : ∀ (m i : Nat), i + m = l.length → Ev (fun k => laws_eqSetS.l0 k l l (i : Int)) true
 | 0, i, hi => by
  refine Ev.step (f := fun _ => some true) (fun k => ?_) (Ev.now _)
  show laws_eqSetS.l0 (k + 1) l l (i : Int) = _
  rw [laws_eqSetS.l0, if_neg (by omega)]
 | m + 1, i, hi => by
  have hlt : i < l.length := by omega
  have hw : wrap64 ((i : Int) + 1) = ((i + 1 : Nat) : Int) := w64n (by omega)
  have he : Ev (fun k => laws_eqSet.f k l[i].f0 l[i].f1 l[i].f2 l[i].f3 l[i].f0 l[i].f1 l[i].f2 l[i].f3) true := by
   refine Ev.congr (fun k => by unfold laws_eqSet.f; rw [if_pos rfl, if_pos rfl, if_pos rfl]) (Ev.bind (eqS_ev l[i].f3 (hs _ (List.getElem_mem hlt))) ?_)
   simp only [if_true]
   exact Ev.now _
  have e0 : ∀ k, laws_eqSetS.l0 (k + 1) l l (i : Int) = (laws_eqSet.f k l[i].f0 l[i].f1 l[i].f2 l[i].f3 l[i].f0 l[i].f1 l[i].f2 l[i].f3).bind fun t450 => (if t450 = true then (laws_eqSetS.l0 k l l ((i + 1 : Nat) : Int)) else (some false)) := fun k => by
   rw [laws_eqSetS.l0, if_pos (by omega), if_pos (by omega), if_pos (by omega), rdSS l i hlt, hw]
  refine Ev.step e0 (Ev.bind he ?_)
  simp only [if_true]
  exact eqSS_loop l hl hs m (i + 1) (by omega)
theorem eqSS_ev (l : List SSet) (hl : l.length ≤ 1048576) (hs : ∀ y ∈ l, y.f3.length ≤ 1048576) : Ev (fun k => laws_eqSetS.f k l l) true := by
 refine Ev.congr (fun k => ?_) (eqSS_loop l (by omega) (fun y hy => by have := hs y hy; omega) l.length 0 (by omega))
 unfold laws_eqSetS.f
 rw [if_pos rfl]
 rfl
theorem markA_loop : ∀ (m i : Nat) (l : List ByteArray) (x : Int), i + m = l.length → 0 ≤ x → x + m < 549755813888 → l.length < 274877906944 → ∃ r, Ev (fun k => laws_markStringS.l0 k l x (i : Int)) (x + m, r) ∧ r.length = l.length
 | 0, i, l, x, hi, h0, hx, hl => by
  refine ⟨l, Ev.step (f := fun _ => some (x + (0 : Nat), l)) (fun k => ?_) (Ev.now _), rfl⟩
  show laws_markStringS.l0 (k + 1) l x (i : Int) = _
  rw [laws_markStringS.l0, if_neg (by omega)]
  simp
 | m + 1, i, l, x, hi, h0, hx, hl => by
  obtain ⟨t, ht⟩ := markT_some x (by omega)
  have hw : wrap64 ((i : Int) + 1) = ((i + 1 : Nat) : Int) := w64n (by omega)
  have hw2 : wrap64 (x + 1) = x + 1 := by unfold wrap64; omega
  obtain ⟨r, hr, hrl⟩ := markA_loop m (i + 1) (l.set i t) (x + 1) (by simp; omega) (by omega) (by omega) (by simp; omega)
  refine ⟨r, Ev.step (f := fun k => (laws_markText.f k x).bind fun t454 => (laws_markStringS.l0 k (l.set i t454) (x + 1) ((i + 1 : Nat) : Int))) (fun k => ?_) (Ev.bind ht ?_), by rw [hrl, List.length_set]⟩
  · show laws_markStringS.l0 (k + 1) l x (i : Int) = _
    rw [laws_markStringS.l0, if_pos (by omega)]
    simp only [if_pos (show (0 : Int) ≤ (i : Int) by omega), hw, hw2, Int.toNat_natCast]
  · rw [show x + ((m + 1 : Nat) : Int) = x + 1 + (m : Int) by omega]
    exact hr
theorem markA_ev (l : List ByteArray) (x : Int) (h0 : 0 ≤ x) (hx : x + l.length < 549755813888) (hl : l.length < 274877906944) : ∃ r, Ev (fun k => laws_markStringS.f k l x) (x + l.length, r) ∧ r.length = l.length :=
 markA_loop l.length 0 l x (by omega) h0 hx hl
theorem markSS_loop : ∀ (m i : Nat) (l : List SSet) (x : Int), i + m = l.length → 0 ≤ x → x + 3 * m + cntS (l.drop i) < 549755813888 → l.length < 274877906944 → (∀ y ∈ l, y.f3.length < 274877906944) → ∃ q r, Ev (fun k => laws_markSetS.l0 k l x (i : Int)) (q, r) ∧ 0 ≤ q
 | 0, i, l, x, hi, h0, hx, hl, hs => by
  refine ⟨x, l, Ev.step (f := fun _ => some (x, l)) (fun k => ?_) (Ev.now _), h0⟩
  show laws_markSetS.l0 (k + 1) l x (i : Int) = _
  rw [laws_markSetS.l0, if_neg (by omega)]
 | m + 1, i, l, x, hi, h0, hx, hl, hs => by
  have hlt : i < l.length := by omega
  rw [List.drop_eq_getElem_cons hlt, cntS_cons] at hx
  obtain ⟨t, ht⟩ := markT_some x (by omega)
  have hw : wrap64 ((i : Int) + 1) = ((i + 1 : Nat) : Int) := w64n (by omega)
  have h1 : wrap64 (x + 1) = x + 1 := by unfold wrap64; omega
  have h2 : wrap64 (x + 1 + 1) = x + 2 := by unfold wrap64; omega
  have h3 : wrap64 (x + 2 + 1) = x + 3 := by unfold wrap64; omega
  obtain ⟨r, hr, hrl⟩ := markA_ev l[i].f3 (x + 3) (by omega) (by omega) (hs _ (List.getElem_mem hlt))
  have hd : (l.set i (⟨t, x + 1, x + 2, r⟩ : SSet)).drop (i + 1) = l.drop (i + 1) := List.drop_set_of_lt (by omega)
  obtain ⟨q, r', hq, hq0⟩ := markSS_loop m (i + 1) (l.set i (⟨t, x + 1, x + 2, r⟩ : SSet)) (x + 3 + l[i].f3.length) (by simp; omega) (by omega) (by rw [hd]; omega) (by simp; omega) (by
   intro y hy
   rcases List.mem_or_eq_of_mem_set hy with hy | rfl
   · exact hs y hy
   · show r.length < 274877906944
     rw [hrl]; exact hs _ (List.getElem_mem hlt))
  refine ⟨q, r', Ev.step (f := fun k => (laws_markText.f k x).bind fun t => ((laws_markStringS.f k l[i].f3 (x + 3)).bind fun q => laws_markSetS.l0 k (l.set i (⟨t, x + 1, x + 2, q.2⟩ : SSet)) q.1 ((i + 1 : Nat) : Int))) (fun k => ?_) (Ev.bind ht (Ev.bind hr hq)), hq0⟩
  show laws_markSetS.l0 (k + 1) l x (i : Int) = _
  rw [laws_markSetS.l0, if_pos (by omega)]
  simp only [if_pos (show (0 : Int) ≤ (i : Int) by omega), hw, h1, h2, h3, Int.toNat_natCast, rdSS l i hlt]
theorem markSS_ev (l : List SSet) (hl : l.length + cntS l ≤ 1048576) (hs : ∀ y ∈ l, y.f3.length ≤ 1048576) : ∃ q r, Ev (fun k => laws_markSetS.f k l 1) (q, r) ∧ 0 ≤ q := by
 obtain ⟨q, r, h, h0⟩ := markSS_loop l.length 0 l 1 (by omega) (by omega) (by rw [List.drop_zero]; omega) (by omega) (fun y hy => by have := hs y hy; omega)
 exact ⟨q, r, h, h0⟩
end Go.Proofs.YtiegkjimpclmaaaGreatDoor.Pure
namespace Go.Proofs.YtiegkjimpclmaaaGreatDoor.Pure
open Go.RowKit Go.Proofs.YtiegkjimpclmaaaGreatDoor.P Go.Proofs.YtiegkjimpclmaaaGreatDoorW.PrintWords Go.Proofs.YtiegkjimpclmaaaGreatDoorW.PrintLast Go.Proofs.YtiegkjimpclmaaaGreatDoorW.PrintMore
set_option linter.unusedVariables false
set_option linter.unusedSimpArgs false
open Classical in
noncomputable def gd (r : IRec) : Bool := decide (Ev (fun k => impl_GoodRecord.f k r.f0 r.f1 r.f2 r.f3) true)
open Classical in
noncomputable def bt (r : IRec) : List UInt8 := if h : ∃ x : ByteArray, Ev (fun k => impl_DataBytes.f k r.f1 r.f3) (x, true) then (Classical.choose h).data.toList else []
noncomputable def od (q r : IRec) : Int := ordR q.f0.data.toList q.f1 q.f2 (bt q) r.f0.data.toList r.f1 r.f2 (bt r)
def SmR (r : IRec) : Prop := Small r.f0 ∧ Small r.f3
def SmS (s : SSet) : Prop := Small s.f0 ∧ ∀ z ∈ s.f3, Small z
open Classical in
theorem gd_iff (r : IRec) : gd r = true ↔ Ev (fun k => impl_GoodRecord.f k r.f0 r.f1 r.f2 r.f3) true := by
 unfold gd
 exact decide_eq_true_iff
theorem gd_ev (r : IRec) (h : SmR r) : Ev (fun k => impl_GoodRecord.f k r.f0 r.f1 r.f2 r.f3) (gd r) ∧ Ev (fun k => spec_GoodRecord.f k r.f0 r.f1 r.f2 r.f3) (gd r) := by
 obtain ⟨b, q, r1, r2, _⟩ := goodrec_both r.f0 r.f1 r.f2 r.f3 h.1 h.2
 have e : gd r = b := by
  cases b with
  | true => exact (gd_iff r).2 r2
  | false => exact Bool.eq_false_iff.2 fun h => by cases Ev.unique ((gd_iff r).1 h) r2
 rw [e]
 exact ⟨r2, r1⟩
theorem bt_eq {r : IRec} (hs : SmR r) (h : gd r = true) : ∃ x : ByteArray, bt r = x.data.toList ∧ Ev (fun k => spec_l3Bytes.f k r.f1 r.f3) (x, true) ∧ Ev (fun k => impl_DataBytes.f k r.f1 r.f3) (x, true) := by
 have hg := (gd_iff r).1 h
 obtain ⟨x, x1, x2⟩ := good_bytes r.f1 r.f3 r.f0 r.f2 hs.1 hs.2 hg
 have he : ∃ x : ByteArray, Ev (fun k => impl_DataBytes.f k r.f1 r.f3) (x, true) := ⟨x, x2⟩
 refine ⟨x, ?_, x1, x2⟩
 unfold bt
 rw [dif_pos he, (Prod.mk.inj (Ev.unique (Classical.choose_spec he) x2)).1]
theorem od_ev {q r : IRec} (hq : SmR q) (hr : SmR r) (gq : gd q = true) (gr : gd r = true) :
 Ev (fun k => impl_compareRecords.f k q.f0 q.f1 q.f2 q.f3 r.f0 r.f1 r.f2 r.f3) (od q r) ∧ Ev (fun k => spec_l3Compare.f k q.f0 q.f1 q.f2 q.f3 r.f0 r.f1 r.f2 r.f3) (od q r) := by
 obtain ⟨x, ex, x1, x2⟩ := bt_eq hq gq
 obtain ⟨y, ey, y1, y2⟩ := bt_eq hr gr
 obtain ⟨_, p, _⟩ := good_parts q.f0 q.f1 q.f2 q.f3 hq.1 hq.2 ((gd_iff q).1 gq)
 obtain ⟨_, p', _⟩ := good_parts r.f0 r.f1 r.f2 r.f3 hr.1 hr.2 ((gd_iff r).1 gr)
 unfold od
 rw [ex, ey]
 exact ⟨implOrd_ev _ _ _ _ _ _ _ _ _ _ hq.1 hr.1 x2 y2, specOrd_ev _ _ _ _ _ _ _ _ _ _ hq.1 hr.1 p p' x1 y1⟩
noncomputable def rise : Option IRec → List IRec → Bool
 | _, [] => true
 | p, r :: R => gd r && (p.all (fun q => decide (od q r < 0)) && rise (some r) R)
theorem rise_cons (p : Option IRec) (r : IRec) (R : List IRec) : rise p (r :: R) = (p.all (fun q => decide (od q r < 0)) && rise none (r :: R)) := by
 simp only [rise, Option.all_none, Bool.true_and]
 cases gd r <;> cases p.all (fun q => decide (od q r < 0)) <;> rfl
def recs (a : ByteArray) (b c : Int) (ds : List ByteArray) : List IRec := ds.map fun d => ⟨a, b, c, d⟩
def recsOf (s : SSet) : List IRec := recs s.f0 s.f1 s.f2 s.f3
theorem recs_len (a : ByteArray) (b c : Int) (ds : List ByteArray) : (recs a b c ds).length = ds.length := by simp [recs]
theorem flat_len (l : List SSet) : (l.flatMap recsOf).length = cntS l := by
 induction l with
 | nil => rfl
 | cons s l ih => rw [List.flatMap_cons, List.length_append, cntS_cons, ih]; unfold recsOf; rw [recs_len]
def kd (q s : SSet) : Int := or2 (ordL q.f0.data.toList s.f0.data.toList) (cmpI q.f1 s.f1)
def one (q s : SSet) : Prop := q.f0 = s.f0 ∧ q.f1 = s.f1
theorem kd_zero (q s : SSet) : kd q s = 0 ↔ one q s := by
 unfold kd one
 rw [or2_zero, ord_zero, cmpI_zero]
 exact ⟨fun h => ⟨ext_data h.1, h.2⟩, fun h => ⟨by rw [h.1], h.2⟩⟩
noncomputable def iv : Option SSet → Nat → List SSet → Bool
 | _, _, [] => true
 | p, n, s :: l => !s.f3.isEmpty && (decide (n + s.f3.length ≤ 60) && (p.all (fun q => decide (kd q s < 0)) && (rise none (recsOf s) && iv (some s) (n + s.f3.length) l)))
noncomputable def sv : Option IRec → List SSet → Bool
 | _, [] => true
 | p, s :: l => !s.f3.isEmpty && (rise p (recsOf s) && sv (recsOf s).getLast? l)
def dk : Option SSet → List SSet → Prop
 | _, [] => True
 | p, s :: l => (∀ q, p = some q → ¬ one q s) ∧ dk (some s) l
def link (p : Option SSet) (pr : Option IRec) : Prop := (p = none ∧ pr = none) ∨ ∃ q r, p = some q ∧ pr = some r ∧ r.f0 = q.f0 ∧ r.f1 = q.f1
theorem link_last (s : SSet) (h : s.f3 ≠ []) : link (some s) (recsOf s).getLast? := by
 right
 refine ⟨s, ⟨s.f0, s.f1, s.f2, s.f3.getLast h⟩, rfl, ?_, rfl, rfl⟩
 unfold recsOf recs
 rw [List.getLast?_map, List.getLast?_eq_some_getLast h]
 rfl
theorem keys_one {p : Option SSet} {pr : Option IRec} (hl : link p pr) (s : SSet) (h : s.f3 ≠ []) :
 ((p.all (fun q => decide (kd q s < 0)) && rise none (recsOf s)) = true) ↔ (rise pr (recsOf s) = true ∧ ∀ q, p = some q → ¬ one q s) := by
 obtain ⟨d, ds, hd⟩ := List.exists_cons_of_ne_nil h
 have hr : recsOf s = (⟨s.f0, s.f1, s.f2, d⟩ : IRec) :: recs s.f0 s.f1 s.f2 ds := by unfold recsOf recs; rw [hd]; rfl
 rcases hl with ⟨rfl, rfl⟩ | ⟨q, r, rfl, rfl, e0, e1⟩
 · simp
 · rw [hr, rise_cons (some r)]
   simp only [Option.all_some, Bool.and_eq_true, decide_eq_true_eq]
   have ho : od r (⟨s.f0, s.f1, s.f2, d⟩ : IRec) = or2 (kd q s) (or2 (Lib.compareBytes (bt r) (bt (⟨s.f0, s.f1, s.f2, d⟩ : IRec))) (cmpI r.f2 s.f2)) := by
    unfold od ordR kd
    rw [e0, e1]
   rw [ho]
   by_cases hk : kd q s = 0
   · constructor
     · rintro ⟨h, _⟩; omega
     · rintro ⟨_, h⟩; exact absurd ((kd_zero q s).1 hk) (h q rfl)
   · have e : ∀ z, or2 (kd q s) z = kd q s := fun z => by unfold or2; rw [if_neg hk]
     rw [e]
     constructor
     · rintro ⟨h, h'⟩
       refine ⟨⟨h, h'⟩, fun q' hq' => ?_⟩
       cases hq'
       exact fun h => hk ((kd_zero q s).2 h)
     · rintro ⟨h, _⟩; exact h
theorem iv_sv : ∀ (l : List SSet) (p : Option SSet) (pr : Option IRec) (n : Nat), link p pr → n ≤ 60 → ((iv p n l = true) ↔ (sv pr l = true ∧ dk p l ∧ n + cntS l ≤ 60))
 | [], p, pr, n, hl, hn => by simp [iv, sv, dk, cntS, hn]
 | s :: l, p, pr, n, hl, hn => by
  by_cases h : s.f3 = []
  · simp [iv, sv, h]
  · have he : (!s.f3.isEmpty) = true := by simp [h]
    unfold iv sv dk
    rw [he, cntS_cons, Bool.true_and, Bool.true_and, ← Bool.and_assoc (p.all _), Bool.and_eq_true, Bool.and_eq_true (p.all (fun q => decide (kd q s < 0)) && rise none (recsOf s)), keys_one hl s h, Bool.and_eq_true (rise pr _), decide_eq_true_eq]
    by_cases hc : n + s.f3.length ≤ 60
    · rw [iv_sv l (some s) (recsOf s).getLast? (n + s.f3.length) (link_last s h) hc]
      constructor
      · rintro ⟨_, ⟨a, b⟩, c, d, e⟩; exact ⟨⟨a, c⟩, ⟨b, d⟩, by omega⟩
      · rintro ⟨⟨a, c⟩, ⟨b, d⟩, e⟩; exact ⟨hc, ⟨a, b⟩, c, d, by omega⟩
    · constructor
      · rintro ⟨h, _⟩; exact absurd h hc
      · rintro ⟨_, _, h⟩; omega
def new (r : IRec) : SSet := ⟨r.f0, r.f1, r.f2, [r.f3]⟩
def gstep (acc : List SSet) (r : IRec) : Option (List SSet) :=
 match acc.getLast? with
 | none => some (acc ++ [new r])
 | some s => if s.f0 = r.f0 ∧ s.f1 = r.f1 then (if s.f2 = r.f2 then some (acc.set (acc.length - 1) ⟨s.f0, s.f1, s.f2, s.f3 ++ [r.f3]⟩) else none) else some (acc ++ [new r])
def gf : List SSet → List IRec → Option (List SSet)
 | acc, [] => some acc
 | acc, r :: R => (gstep acc r).bind fun a => gf a R
theorem gstep_same (acc : List SSet) (s : SSet) (d : ByteArray) : gstep (acc ++ [s]) ⟨s.f0, s.f1, s.f2, d⟩ = some (acc ++ [⟨s.f0, s.f1, s.f2, s.f3 ++ [d]⟩]) := by
 unfold gstep
 rw [List.getLast?_append, List.getLast?_singleton]
 simp
theorem gf_run (acc : List SSet) (R : List IRec) : ∀ (ds : List ByteArray) (s : SSet), gf (acc ++ [s]) (recs s.f0 s.f1 s.f2 ds ++ R) = gf (acc ++ [⟨s.f0, s.f1, s.f2, s.f3 ++ ds⟩]) R
 | [], s => by simp [recs]
 | d :: ds, s => by
  show gf (acc ++ [s]) ((⟨s.f0, s.f1, s.f2, d⟩ : IRec) :: (recs s.f0 s.f1 s.f2 ds ++ R)) = _
  show (gstep _ _).bind _ = _
  rw [gstep_same, Option.bind_some]
  have := gf_run acc R ds ⟨s.f0, s.f1, s.f2, s.f3 ++ [d]⟩
  simp only [List.append_assoc, List.singleton_append] at this
  rw [this]
theorem gf_new (acc : List SSet) (s : SSet) (R : List IRec) (hn : s.f3 ≠ []) (h : ∀ q, acc.getLast? = some q → ¬ one q s) : gf acc (recsOf s ++ R) = gf (acc ++ [s]) R := by
 obtain ⟨d, ds, hd⟩ := List.exists_cons_of_ne_nil hn
 have hr : recsOf s = (⟨s.f0, s.f1, s.f2, d⟩ : IRec) :: recs s.f0 s.f1 s.f2 ds := by unfold recsOf recs; rw [hd]; rfl
 have hg : gstep acc ⟨s.f0, s.f1, s.f2, d⟩ = some (acc ++ [⟨s.f0, s.f1, s.f2, [d]⟩]) := by
  unfold gstep
  cases hq : acc.getLast? with
  | none => rfl
  | some q => exact if_neg (h q hq)
 rw [hr, List.cons_append]
 show (gstep acc _).bind _ = _
 rw [hg, Option.bind_some]
 have := gf_run acc R ds ⟨s.f0, s.f1, s.f2, [d]⟩
 simp only [List.singleton_append] at this
 rw [this, ← hd]
theorem gf_same (acc : List SSet) (q s : SSet) (R : List IRec) (hn : s.f3 ≠ []) (h : one q s) : gf (acc ++ [q]) (recsOf s ++ R) = none ∨ gf (acc ++ [q]) (recsOf s ++ R) = gf (acc ++ [⟨q.f0, q.f1, q.f2, q.f3 ++ s.f3⟩]) R := by
 by_cases h2 : q.f2 = s.f2
 · right
   have e : recsOf s = recs q.f0 q.f1 q.f2 s.f3 := by unfold recsOf; rw [h.1, h.2, h2]
   rw [e, gf_run]
 · left
   obtain ⟨d, ds, hd⟩ := List.exists_cons_of_ne_nil hn
   have hr : recsOf s = (⟨s.f0, s.f1, s.f2, d⟩ : IRec) :: recs s.f0 s.f1 s.f2 ds := by unfold recsOf recs; rw [hd]; rfl
   have hg : gstep (acc ++ [q]) ⟨s.f0, s.f1, s.f2, d⟩ = none := by
    unfold gstep
    rw [List.getLast?_append, List.getLast?_singleton]
    show (if q.f0 = s.f0 ∧ q.f1 = s.f1 then (if q.f2 = s.f2 then _ else none) else _) = none
    rw [if_pos (show q.f0 = s.f0 ∧ q.f1 = s.f1 from h), if_neg h2]
   rw [hr, List.cons_append]
   show (gstep _ _).bind _ = _
   rw [hg]
   rfl
theorem gf_all : ∀ (l acc : List SSet), (∀ s ∈ l, s.f3 ≠ []) → dk acc.getLast? l → gf acc (l.flatMap recsOf) = some (acc ++ l)
 | [], acc, _, _ => by simp [gf]
 | s :: l, acc, hn, hd => by
  rw [List.flatMap_cons, gf_new acc s _ (hn s (by simp)) hd.1, gf_all l (acc ++ [s]) (fun t ht => hn t (by simp [ht])) (by rw [List.getLast?_append, List.getLast?_singleton]; exact hd.2)]
  simp
theorem gf_len : ∀ (l acc S : List SSet), (∀ s ∈ l, s.f3 ≠ []) → gf acc (l.flatMap recsOf) = some S → S.length ≤ acc.length + l.length ∧ (S.length = acc.length + l.length → dk acc.getLast? l)
 | [], acc, S, _, h => by
  simp [gf] at h
  subst h
  exact ⟨by simp, fun _ => trivial⟩
 | s :: l, acc, S, hn, h => by
  rw [List.flatMap_cons] at h
  by_cases hc : ∃ q, acc.getLast? = some q ∧ one q s
  · obtain ⟨q, hq, ho⟩ := hc
    obtain ⟨acc', rfl⟩ := List.getLast?_eq_some_iff.1 hq
    rcases gf_same acc' q s (l.flatMap recsOf) (hn s (by simp)) ho with e | e
    · rw [e] at h; cases h
    · rw [e] at h
      have := (gf_len l _ S (fun t ht => hn t (by simp [ht])) h).1
      simp only [List.length_append, List.length_cons, List.length_nil] at this ⊢
      exact ⟨by omega, fun h => by omega⟩
  · have hc' : ∀ q, acc.getLast? = some q → ¬ one q s := fun q hq ho => hc ⟨q, hq, ho⟩
    rw [gf_new acc s _ (hn s (by simp)) hc'] at h
    obtain ⟨g1, g2⟩ := gf_len l _ S (fun t ht => hn t (by simp [ht])) h
    rw [List.getLast?_append, List.getLast?_singleton] at g2
    simp only [List.length_append, List.length_cons, List.length_nil] at g1 g2 ⊢
    exact ⟨by omega, fun h => ⟨hc', g2 (by omega)⟩⟩
theorem sv_full : ∀ (l : List SSet) (p : Option IRec), sv p l = true → ∀ s ∈ l, s.f3 ≠ []
 | [], p, _, s, hs => by cases hs
 | t :: l, p, h, s, hs => by
  unfold sv at h
  simp only [Bool.and_eq_true] at h
  rcases List.mem_cons.1 hs with rfl | hs
  · intro e; simp [e] at h
  · exact sv_full l _ h.2.2 s hs
end Go.Proofs.YtiegkjimpclmaaaGreatDoor.Pure
namespace Go.Proofs.YtiegkjimpclmaaaGreatDoor.Pure
open Go.RowKit Go.Proofs.YtiegkjimpclmaaaGreatDoor.P Go.Proofs.YtiegkjimpclmaaaGreatDoorW.PrintWords Go.Proofs.YtiegkjimpclmaaaGreatDoorW.PrintLast Go.Proofs.YtiegkjimpclmaaaGreatDoorW.PrintMore
set_option linter.unusedVariables false
set_option linter.unusedSimpArgs false
theorem w64p {n : Nat} (h0 : 0 < n) (h : n < 4611686018427387904) : wrap64 ((n : Int) - 1) = ((n - 1 : Nat) : Int) := by unfold wrap64; omega
theorem toL_iff (x y : ByteArray) : x.toList = y.toList ↔ x = y := ⟨fun h => by rw [Lib.toList_data, Lib.toList_data] at h; exact ext_data h, fun h => by rw [h]⟩
theorem areR_true (k : Nat) (L P : List IRec) (n i : Int) : impl_areRising.j1 (k + 1) L P n i true = some false := rfl
theorem areR_false (k : Nat) (L P : List IRec) (n i : Int) : impl_areRising.j1 (k + 1) L P n i false = impl_areRising.l0 k L P n (wrap64 (i + 1)) := rfl
theorem rise_loop (L : List IRec) (hl : L.length < 1099511627776) (hs : ∀ r ∈ L, SmR r) : ∀ (m i : Nat) (p : Option IRec), i + m = L.length → (i = 0 → p = none) → (0 < i → ∀ h : i - 1 < L.length, p = some L[i - 1] ∧ gd L[i - 1] = true) →
 Ev (fun k => impl_areRising.l0 k L L (L.length : Int) (i : Int)) (rise p (L.drop i))
 | 0, i, p, hi, h0, h1 => by
  rw [List.drop_of_length_le (by omega)]
  refine Ev.step (f := fun _ => some true) (fun k => ?_) (Ev.now _)
  show impl_areRising.l0 (k + 1) L L (L.length : Int) (i : Int) = _
  rw [impl_areRising.l0, if_neg (by omega)]
 | m + 1, i, p, hi, h0, h1 => by
  have hlt : i < L.length := by omega
  have hg := (gd_ev L[i] (hs _ (List.getElem_mem hlt))).1
  rw [List.drop_eq_getElem_cons hlt]
  have e0 : ∀ k, impl_areRising.l0 (k + 1) L L (L.length : Int) (i : Int) = (impl_GoodRecord.f k L[i].f0 L[i].f1 L[i].f2 L[i].f3).bind fun t417 => (if t417 = true then (if (i : Int) > 0 then (if 0 ≤ (wrap64 ((i : Int) - 1)) then (if (wrap64 ((i : Int) - 1)) < (L.length : Int) then ((impl_compareRecords.f k ((rd_T45 L (wrap64 ((i : Int) - 1))).f0) ((rd_T45 L (wrap64 ((i : Int) - 1))).f1) ((rd_T45 L (wrap64 ((i : Int) - 1))).f2) ((rd_T45 L (wrap64 ((i : Int) - 1))).f3) L[i].f0 L[i].f1 L[i].f2 L[i].f3).bind fun t419 => (impl_areRising.j1 k L L (L.length : Int) (i : Int) (decide (t419 ≥ 0)))) else (none)) else (none)) else (impl_areRising.j1 k L L (L.length : Int) (i : Int) false)) else (impl_areRising.j1 k L L (L.length : Int) (i : Int) true)) := fun k => by
   rw [impl_areRising.l0, if_pos (by omega), if_pos (by omega), if_pos (by omega), rdI L i hlt]
  refine Ev.step e0 (Ev.bind hg ?_)
  cases hgd : gd L[i] with
  | false =>
   simp only [Bool.false_eq_true, if_false, rise, hgd, Bool.false_and]
   exact Ev.step (f := fun _ => some false) (fun k => areR_true ..) (Ev.now _)
  | true =>
   have ih := rise_loop L hl hs m (i + 1) (some L[i]) (by omega) (fun h => absurd h (by omega)) (fun _ h => ⟨by simp, by simpa using hgd⟩)
   have hj : Ev (fun k => impl_areRising.j1 k L L (L.length : Int) (i : Int) false) (rise (some L[i]) (L.drop (i + 1))) := by
    refine Ev.step (fun k => ?_) ih
    rw [areR_false, w64n (by omega)]
   simp only [if_true, rise, hgd, Bool.true_and]
   by_cases hz : i = 0
   · rw [h0 hz]
     simp only [if_neg (show ¬ (i : Int) > 0 by omega), Option.all_none, Bool.true_and]
     exact hj
   · obtain ⟨hp, hq⟩ := h1 (by omega) (by omega)
     rw [hp]
     have hi1 : i - 1 < L.length := by omega
     simp only [if_pos (show (i : Int) > 0 by omega), w64p (show 0 < i by omega) (by omega), if_pos (show (0 : Int) ≤ ((i - 1 : Nat) : Int) by omega), if_pos (show ((i - 1 : Nat) : Int) < (L.length : Int) by omega), rdI L (i - 1) hi1, Option.all_some]
     refine Ev.bind (od_ev (hs _ (List.getElem_mem hi1)) (hs _ (List.getElem_mem hlt)) hq hgd).1 ?_
     by_cases ho : od L[i - 1] L[i] < 0
     · rw [decide_eq_true ho, Bool.true_and]
       simp only [decide_eq_false (show ¬ od L[i - 1] L[i] ≥ 0 by omega)]
       exact hj
     · rw [decide_eq_false ho, Bool.false_and]
       simp only [decide_eq_true (show od L[i - 1] L[i] ≥ 0 by omega)]
       exact Ev.step (f := fun _ => some false) (fun k => areR_true ..) (Ev.now _)
theorem rise_ev (L : List IRec) (hl : L.length < 1099511627776) (hs : ∀ r ∈ L, SmR r) : Ev (fun k => impl_areRising.f k L) (rise none L) :=
 Ev.congr (fun k => rfl) (rise_loop L hl hs L.length 0 none (by omega) (fun _ => rfl) (fun h => absurd h (by omega)))
def badR : List IRec × Bool := ([], false)
def valR (all : List IRec) (b : Bool) : List IRec × Bool := if b = true then (all, true) else badR
theorem recs_small {s : SSet} (h : SmS s) : ∀ r ∈ recsOf s, SmR r := by
 intro r hr
 unfold recsOf recs at hr
 obtain ⟨d, hd, rfl⟩ := List.mem_map.1 hr
 exact ⟨h.1, h.2 d hd⟩
theorem recs_get (a : ByteArray) (b c : Int) (ds : List ByteArray) (j : Nat) (h : j < ds.length) : (recs a b c ds).take (j + 1) = (recs a b c ds).take j ++ [⟨a, b, c, ds[j]⟩] := by
 rw [List.take_succ_eq_append_getElem (by rw [recs_len]; exact h)]
 simp [recs]
theorem in_loop (l : List SSet) (acc : List IRec) (i : Nat) (a : ByteArray) (b c : Int) (ds : List ByteArray) (R : List IRec × Bool) (hb : acc.length + ds.length < 1099511627776)
 (hR : Ev (fun k => (impl_areRising.f k (recs a b c ds)).bind fun t437 => (if t437 = true then (impl_RecordsOf.l0 k l (acc ++ recs a b c ds) l (l.length : Int) (wrap64 ((i : Int) + 1))) else (some (([] : List IRec), false)))) R) :
 ∀ (m j : Nat), j + m = ds.length → Ev (fun k => impl_RecordsOf.l1 k l (acc ++ (recs a b c ds).take j) (acc.length : Int) l (l.length : Int) (i : Int) ds (ds.length : Int) (j : Int) a b c ds) R
 | 0, j, hj => by
  refine Ev.step (fun k => ?_) hR
  rw [List.take_of_length_le (by rw [recs_len]; omega), impl_RecordsOf.l1, if_neg (by omega), if_pos (by omega), if_pos (by rw [List.length_append]; omega), Int.toNat_natCast, List.drop_left]
 | m + 1, j, hj => by
  have hlt : j < ds.length := by omega
  refine Ev.step (fun k => ?_) (in_loop l acc i a b c ds R hb hR m (j + 1) (by omega))
  have hlen : ((recs a b c ds).take j).length ≤ j := by rw [List.length_take]; omega
  rw [impl_RecordsOf.l1, if_pos (by omega), if_pos (by omega), if_pos (by omega), if_pos (by rw [List.length_append]; omega), show rdOf ByteArray.empty ds (j : Int) = ds[j] from mS_rd ds j hlt, w64n (by omega), recs_get a b c ds j hlt, List.append_assoc]
theorem iv_loop (l : List SSet) (hl : l.length + cntS l ≤ 1048576) (hs : ∀ s ∈ l, SmS s) : ∀ (m i : Nat) (acc : List IRec) (p : Option SSet), i + m = l.length → acc ++ (l.drop i).flatMap recsOf = l.flatMap recsOf → (i = 0 → p = none) → (0 < i → ∀ h : i - 1 < l.length, p = some l[i - 1]) →
 Ev (fun k => impl_RecordsOf.l0 k l acc l (l.length : Int) (i : Int)) (valR (l.flatMap recsOf) (iv p acc.length (l.drop i)))
 | 0, i, acc, p, hi, ha, h0, h1 => by
  rw [List.drop_of_length_le (by omega)] at ha ⊢
  simp only [List.flatMap_nil, List.append_nil] at ha
  refine Ev.step (f := fun _ => some (acc, true)) (fun k => ?_) ?_
  · show impl_RecordsOf.l0 (k + 1) l acc l (l.length : Int) (i : Int) = _
    rw [impl_RecordsOf.l0, if_neg (by omega)]
  · rw [ha]; exact Ev.now _
 | m + 1, i, acc, p, hi, ha, h0, h1 => by
  have hlt : i < l.length := by omega
  have hm : l[i] ∈ l := List.getElem_mem hlt
  have hd := List.drop_eq_getElem_cons hlt
  have hlen : acc.length + (l[i].f3.length + cntS (l.drop (i + 1))) = cntS l := by
   have := congrArg List.length ha
   rw [List.length_append, flat_len, flat_len, hd, cntS_cons] at this
   exact this
  have bad : Ev (fun k => impl_RecordsOf.j1 k l acc l (l.length : Int) (i : Int) true l[i].f0 l[i].f1 l[i].f2 l[i].f3) badR :=
   Ev.step (f := fun _ => some badR) (fun k => rfl) (Ev.now _)
  have good : Ev (fun k => impl_RecordsOf.j1 k l acc l (l.length : Int) (i : Int) false l[i].f0 l[i].f1 l[i].f2 l[i].f3) (valR (l.flatMap recsOf) (rise none (recsOf l[i]) && iv (some l[i]) (acc.length + l[i].f3.length) (l.drop (i + 1)))) := by
   have hr := rise_ev (recsOf l[i]) (by unfold recsOf; rw [recs_len]; omega) (recs_small (hs _ hm))
   have ih := iv_loop l hl hs m (i + 1) (acc ++ recsOf l[i]) (some l[i]) (by omega) (by rw [← ha, hd, List.flatMap_cons, List.append_assoc]) (fun h => absurd h (by omega)) (fun _ h => by simp)
   rw [List.length_append, show (recsOf l[i]).length = l[i].f3.length by unfold recsOf; rw [recs_len]] at ih
   refine Ev.step (f := fun k => impl_RecordsOf.l1 k l acc (acc.length : Int) l (l.length : Int) (i : Int) l[i].f3 (l[i].f3.length : Int) 0 l[i].f0 l[i].f1 l[i].f2 l[i].f3) (fun k => rfl) ?_
   have := in_loop l acc i l[i].f0 l[i].f1 l[i].f2 l[i].f3 (valR (l.flatMap recsOf) (rise none (recsOf l[i]) && iv (some l[i]) (acc.length + l[i].f3.length) (l.drop (i + 1)))) (by omega) (Ev.bind hr ?_) l[i].f3.length 0 (by omega)
   · rw [List.take_zero, List.append_nil] at this; exact this
   · cases hrr : rise none (recsOf l[i]) with
     | false => simp only [Bool.false_eq_true, if_false, Bool.false_and]; exact Ev.now _
     | true =>
      simp only [if_true, Bool.true_and, w64n (show i < 4611686018427387904 by omega)]
      exact ih
  rw [hd]
  have e0 := fun k => show impl_RecordsOf.l0 (k + 1) l acc l (l.length : Int) (i : Int) = _ by
   rw [impl_RecordsOf.l0, if_pos (by omega), if_pos (by omega), if_pos (by omega), rdSS l i hlt]
  refine Ev.step e0 ?_
  unfold iv
  by_cases hz : l[i].f3 = []
  · simp only [hz, List.length_nil, List.isEmpty_nil, Bool.not_true, Bool.false_and]
    rw [hz] at bad
    exact bad
  · have hpos : 0 < l[i].f3.length := List.length_pos_iff.2 hz
    have he : (!l[i].f3.isEmpty) = true := by simp [hz]
    rw [he, Bool.true_and]
    have hw : wrap64 ((acc.length : Int) + (l[i].f3.length : Int)) = (acc.length : Int) + (l[i].f3.length : Int) := by unfold wrap64; omega
    simp only [if_neg (show ¬ ((l[i].f3.length : Int) = 0) by omega), hw]
    by_cases hc : acc.length + l[i].f3.length ≤ 60
    · simp only [if_neg (show ¬ ((acc.length : Int) + (l[i].f3.length : Int) > 60) by omega), decide_eq_true hc, Bool.true_and]
      by_cases hi0 : i = 0
      · simp only [h0 hi0, if_neg (show ¬ (i : Int) > 0 by omega), Option.all_none, Bool.true_and]
        exact good
      · have hi1 : i - 1 < l.length := by omega
        have hp := h1 (by omega) hi1
        simp only [if_pos (show (i : Int) > 0 by omega), w64p (show 0 < i by omega) (by omega), if_pos (show (0 : Int) ≤ ((i - 1 : Nat) : Int) by omega), if_pos (show ((i - 1 : Nat) : Int) < (l.length : Int) by omega), rdSS l (i - 1) hi1, hp, Option.all_some]
        have hk : Ev (fun k => impl_compareKeys.f k l[i - 1].f0 l[i - 1].f1 0 (⟨#[]⟩ : ByteArray) l[i].f0 l[i].f1 0 (⟨#[]⟩ : ByteArray)) (kd l[i - 1] l[i]) := by
         refine Ev.congr (fun k => rfl) (Ev.bind (implComp_ev _ _ (hs _ (List.getElem_mem hi1)).1 (hs _ hm).1) ?_)
         simp only [cmpI_eq, Option.bind_some]
         exact Ev.bind (or_two _ _) (Ev.now _)
        refine Ev.bind hk ?_
        by_cases ho : kd l[i - 1] l[i] < 0
        · rw [decide_eq_true ho, Bool.true_and]
          simp only [decide_eq_false (show ¬ kd l[i - 1] l[i] ≥ 0 by omega)]
          exact good
        · rw [decide_eq_false ho, Bool.false_and]
          simp only [decide_eq_true (show kd l[i - 1] l[i] ≥ 0 by omega)]
          exact bad
    · simp only [if_pos (show ((acc.length : Int) + (l[i].f3.length : Int) > 60) by omega), decide_eq_false hc, Bool.false_and]
      exact bad
theorem implRO_ev (l : List SSet) (hl : l.length + cntS l ≤ 1048576) (hs : ∀ s ∈ l, SmS s) : Ev (fun k => impl_RecordsOf.f k l) (valR (l.flatMap recsOf) (decide (l.length ≤ 40) && iv none 0 l)) := by
 by_cases hc : l.length ≤ 40
 · rw [decide_eq_true hc, Bool.true_and]
   refine Ev.congr (fun k => ?_) (iv_loop l hl hs l.length 0 [] none (by omega) (by simp) (fun _ => rfl) (fun h => absurd h (by omega)))
   unfold impl_RecordsOf.f
   rw [if_neg (by omega)]
   rfl
 · rw [decide_eq_false hc, Bool.false_and]
   refine Ev.congr (f := fun _ => some badR) (fun k => ?_) (Ev.now _)
   unfold impl_RecordsOf.f
   rw [if_pos (by omega)]
   rfl
end Go.Proofs.YtiegkjimpclmaaaGreatDoor.Pure
