/- FnExactReplyTo: part 21 of 23 of my texts for this claim, joined; the theorem stands in the last. Conditions: none beyond the statement's. -/
import Derived.Test.YtkpkfallgjdkmaaGreatDoorMFnExactReplyTox19
namespace Go.Proofs.YtkpkfallgjdkmaaGreatDoor.Pure
open Go.RowKit Go.Proofs.YtkpkfallgjdkmaaGreatDoor.P Go.Proofs.YtkpkfallgjdkmaaGreatDoorW.PrintWords Go.Proofs.YtkpkfallgjdkmaaGreatDoorW.PrintLast Go.Proofs.YtkpkfallgjdkmaaGreatDoorW.PrintMore
set_option linter.unusedVariables false
set_option linter.unusedSimpArgs false
abbrev LRec := S71
abbrev IRec := S72
def conv (x : LRec) : IRec := ⟨x.f0, x.f1, x.f2, x.f3⟩
theorem rdL (l : List LRec) (i : Nat) (h : i < l.length) : rd_T71 l (i : Int) = l[i] := by
 unfold rd_T71
 rw [Int.toNat_natCast, List.getD_eq_getElem?_getD, List.getElem?_eq_getElem h, Option.getD_some]
theorem rdI (l : List IRec) (i : Nat) (h : i < l.length) : rd_T72 l (i : Int) = l[i] := by
 unfold rd_T72
 rw [Int.toNat_natCast, List.getD_eq_getElem?_getD, List.getElem?_eq_getElem h, Option.getD_some]
def Small (x : ByteArray) : Prop := x.size ≤ 1048576
theorem szRS_loop (l : List LRec) (hl : l.length < 1099511627776) (hs : ∀ y ∈ l, y.f0.size ≤ maxLen ∧ y.f3.size ≤ maxLen) : ∀ (m i : Nat) (left : Int), i + m = l.length → 0 ≤ left → left ≤ 1048576 →
 ∃ t, Ev (fun k => laws_szRecordS.l0 k l left (i : Int)) t ∧ (0 ≤ t → t ≤ left ∧ ∀ (j : Nat) (h : j < l.length), i ≤ j → l[j].f0.size ≤ 1048576 ∧ l[j].f3.size ≤ 1048576)
 | 0, i, left, hi, h0, h1 => by
  refine ⟨left, Ev.step (f := fun _ => some left) (fun k => ?_) (Ev.now _), fun _ => ⟨Int.le_refl _, fun j h hij => absurd h (by omega)⟩⟩
  show laws_szRecordS.l0 (k + 1) l left (i : Int) = _
  rw [laws_szRecordS.l0, if_neg (by omega)]
 | m + 1, i, left, hi, h0, h1 => by
  have hlt : i < l.length := by omega
  have hx := hs _ (List.getElem_mem hlt)
  obtain ⟨t, e, ht⟩ := szRecAt left h0 h1 l[i].f0 l[i].f1 l[i].f2 l[i].f3 hx.1 hx.2
  have hw : wrap64 ((i : Int) + 1) = ((i + 1 : Nat) : Int) := w64n (by omega)
  by_cases hn : t < 0
  · refine ⟨-1, Ev.step (f := fun _ => some (-1)) (fun k => ?_) (Ev.now _), fun h => absurd h (by omega)⟩
    show laws_szRecordS.l0 (k + 1) l left (i : Int) = _
    rw [laws_szRecordS.l0, if_pos (by omega), if_pos (by omega), rdL l i hlt, e, Option.bind_some, if_pos hn]
  · obtain ⟨g1, g2, g3⟩ := ht (by omega)
    obtain ⟨t', e', ht'⟩ := szRS_loop l hl hs m (i + 1) t (by omega) (by omega) (by omega)
    refine ⟨t', Ev.step (f := fun k => laws_szRecordS.l0 k l t ((i + 1 : Nat) : Int)) (fun k => ?_) e', fun h => ?_⟩
    · show laws_szRecordS.l0 (k + 1) l left (i : Int) = _
      rw [laws_szRecordS.l0, if_pos (by omega), if_pos (by omega), rdL l i hlt, e, Option.bind_some, if_neg hn, hw]
    · obtain ⟨q1, q2⟩ := ht' h
      refine ⟨by omega, fun j hj hij => ?_⟩
      by_cases c : j = i
      · subst c; exact ⟨g2, g3⟩
      · exact q2 j hj (by omega)
theorem szRS_ev (l : List LRec) (left : Int) (h0 : 0 ≤ left) (h1 : left ≤ 1048576) (hm : l.length ≤ maxLen) (hs : ∀ y ∈ l, y.f0.size ≤ maxLen ∧ y.f3.size ≤ maxLen) :
 ∃ t, Ev (fun k => laws_szRecordS.f k l left) t ∧ (0 ≤ t → t ≤ left ∧ l.length ≤ 1048576 ∧ ∀ y ∈ l, Small y.f0 ∧ Small y.f3) := by
 simp only [maxLen] at hm
 have hw : wrap64 (left - (l.length : Int)) = left - (l.length : Int) := by unfold wrap64; omega
 by_cases hn : left - (l.length : Int) < 0
 · refine ⟨-1, Ev.congr (f := fun _ => some (-1)) (fun k => ?_) (Ev.now _), fun h => absurd h (by omega)⟩
   unfold laws_szRecordS.f
   rw [hw, if_pos hn]
 · obtain ⟨t, e, ht⟩ := szRS_loop l (by omega) hs l.length 0 (left - (l.length : Int)) (by omega) (by omega) (by omega)
   refine ⟨t, Ev.congr (fun k => ?_) e, fun h => ?_⟩
   · unfold laws_szRecordS.f
     rw [hw, if_neg hn]
     rfl
   · obtain ⟨q1, q2⟩ := ht h
     refine ⟨by omega, by omega, fun y hy => ?_⟩
     obtain ⟨j, hj, rfl⟩ := List.mem_iff_getElem.1 hy
     exact q2 j hj (Nat.zero_le _)
theorem toRS_loop (l : List LRec) (hl : l.length < 1099511627776) : ∀ (m i : Nat) (out : List IRec), i + m = l.length → out = (l.take i).map conv ++ List.replicate m z72 → Ev (fun k => laws_toRecordS.l0 k l out (i : Int)) (l.map conv)
 | 0, i, out, hi, ho => by
  refine Ev.step (f := fun _ => some (l.map conv)) (fun k => ?_) (Ev.now _)
  show laws_toRecordS.l0 (k + 1) l out (i : Int) = _
  rw [laws_toRecordS.l0, if_neg (by omega), ho, List.take_of_length_le (by omega)]
  simp
 | m + 1, i, out, hi, ho => by
  have hlt : i < l.length := by omega
  have hw : wrap64 ((i : Int) + 1) = ((i + 1 : Nat) : Int) := w64n (by omega)
  have hlen : ((l.take i).map conv).length = i := by rw [List.length_map, List.length_take]; omega
  have ih := toRS_loop l hl m (i + 1) (out.set i (conv l[i])) (by omega) (by
   rw [ho, List.set_append_right _ _ (by omega), hlen, Nat.sub_self, List.take_succ_eq_append_getElem hlt, List.map_append, List.append_assoc]
   rfl)
  refine Ev.step (f := fun k => laws_toRecordS.l0 k l (out.set i (conv l[i])) ((i + 1 : Nat) : Int)) (fun k => ?_) ih
  show laws_toRecordS.l0 (k + 1) l out (i : Int) = _
  have ho2 : out.length = l.length := by rw [ho, List.length_append, hlen, List.length_replicate]; omega
  rw [laws_toRecordS.l0, if_pos (by omega), if_pos (by omega), rdL l i hlt]
  unfold laws_toRecord.f
  rw [Option.bind_some, if_pos (by omega), hw, Int.toNat_natCast]
  rfl
theorem toRS_ev (l : List LRec) (hl : l.length ≤ 1048576) : Ev (fun k => laws_toRecordS.f k l) (l.map conv) := by
 refine Ev.congr (fun k => ?_) (toRS_loop l (by omega) l.length 0 (List.replicate l.length z72) (by omega) (by simp))
 unfold laws_toRecordS.f
 rw [if_pos (by omega), Int.toNat_natCast, if_pos (by omega)]
 rfl
theorem eqRec_self (x : IRec) : laws_eqRecord.f x.f0 x.f1 x.f2 x.f3 x.f0 x.f1 x.f2 x.f3 = some true := by
 unfold laws_eqRecord.f
 simp
theorem eqRS_loop (l : List IRec) (hl : l.length < 1099511627776) : ∀ (m i : Nat), i + m = l.length → Ev (fun k => laws_eqRecordS.l0 k l l (i : Int)) true
 | 0, i, hi => by
  refine Ev.step (f := fun _ => some true) (fun k => ?_) (Ev.now _)
  show laws_eqRecordS.l0 (k + 1) l l (i : Int) = _
  rw [laws_eqRecordS.l0, if_neg (by omega)]
 | m + 1, i, hi => by
  have hlt : i < l.length := by omega
  have hw : wrap64 ((i : Int) + 1) = ((i + 1 : Nat) : Int) := w64n (by omega)
  refine Ev.step (f := fun k => laws_eqRecordS.l0 k l l ((i + 1 : Nat) : Int)) (fun k => ?_) (eqRS_loop l hl m (i + 1) (by omega))
  show laws_eqRecordS.l0 (k + 1) l l (i : Int) = _
  rw [laws_eqRecordS.l0, if_pos (by omega), if_pos (by omega), if_pos (by omega), eqRec_self, Option.bind_some, if_pos rfl, hw]
theorem eqRS_ev (l : List IRec) (hl : l.length ≤ 1048576) : Ev (fun k => laws_eqRecordS.f k l l) true := by
 refine Ev.congr (fun k => ?_) (eqRS_loop l (by omega) l.length 0 (by omega))
 unfold laws_eqRecordS.f
 rw [if_pos rfl]
 rfl
theorem small_conv {l : List LRec} (h : ∀ y ∈ l, Small y.f0 ∧ Small y.f3) : ∀ y ∈ l.map conv, Small y.f0 ∧ Small y.f3 := by
 intro y hy
 obtain ⟨x, hx, rfl⟩ := List.mem_map.1 hy
 exact h x hx
end Go.Proofs.YtkpkfallgjdkmaaGreatDoor.Pure
namespace Go.Proofs.YtkpkfallgjdkmaaGreatDoor.P
open Go.RowKit Go.Proofs.YtkpkfallgjdkmaaGreatDoorW.PrintWords Go.Proofs.YtkpkfallgjdkmaaGreatDoorW.PrintLast Go.Proofs.YtkpkfallgjdkmaaGreatDoorW.PrintMore
attribute [local go_sem] max2_int min2_int max_two min_two max_three min_three max_four min_four
set_option linter.unusedVariables false
set_option linter.unusedSimpArgs false
mutual
def laws_FnExactReplyTo.j0 : Nat → Int → List (S71) → List (S71) → Bool → List (S72) → List (S72) → Bool → Bool → Int → Bool → Bool → Int → ByteArray → Int → List (S71) → List (S71) → Int → Bool → Bool → Int → ByteArray → Int → List (S72) → List (S72) → Int → Bool → Bool → Int → ByteArray → Int → List (S72) → List (S72) → Int → Bool → Bool → Int → ByteArray → Int → List (S72) → List (S72) → Option (Bool)
 | 0, _, _, _, _, _, _, _, _, _, _, _, _, _, _, _, _, _, _, _, _, _, _, _, _, _, _, _, _, _, _, _, _, _, _, _, _, _, _, _, _ => none
 | k + 1, x1, x2, x3, x11, x13, x14, x16, x70, x351000, x351001, x351002, x351003, x351004, x351005, x351006, x351007, x386000, x386001, x386002, x386003, x386004, x386005, x386006, x386007, x399000, x399001, x399002, x399003, x399004, x399005, x399006, x399007, x419000, x419001, x419002, x419003, x419004, x419005, x419006, x419007 => if x70 = true then (some false) else ((laws_toMessage.f k x351000 x351001 x351002 x351003 x351004 x351005 x351006 x351007).bind fun bt420 => ((laws_eqMessage.f k x399000 x399001 x399002 x399003 x399004 x399005 x399006 x399007 bt420.1 bt420.2.1 bt420.2.2.1 bt420.2.2.2.1 bt420.2.2.2.2.1 bt420.2.2.2.2.2.1 bt420.2.2.2.2.2.2.1 bt420.2.2.2.2.2.2.2).bind fun t432 => (if t432 = true then ((laws_toRecordS.f k x2).bind fun t433 => ((laws_eqRecordS.f k x13 t433).bind fun t436 => (if t436 = true then ((laws_toRecordS.f k x3).bind fun t437 => ((laws_eqRecordS.f k x14 t437).bind fun t440 => (if t440 = true then ((laws_markMessage.f k x399000 x399001 x399002 x399003 x399004 x399005 x399006 x399007 1).bind fun bt441 => ((laws_markRecordS.f k x13 bt441.1).bind fun bt444 => ((laws_markRecordS.f k x14 bt444.1).bind fun bt446 => (if bt446.1 < 0 then (laws_FnExactReplyTo.j1 k x1 x2 x3 x11 true x351000 x351001 x351002 x351003 x351004 x351005 x351006 x351007 x386000 x386001 x386002 x386003 x386004 x386005 x386006 x386007 x419000 x419001 x419002 x419003 x419004 x419005 x419006 x419007) else ((laws_eqMessage.f k x419000 x419001 x419002 x419003 x419004 x419005 x419006 x419007 x386000 x386001 x386002 x386003 x386004 x386005 x386006 x386007).bind fun t448 => (if t448 = true then (laws_FnExactReplyTo.j1 k x1 x2 x3 x11 (x16 != x11) x351000 x351001 x351002 x351003 x351004 x351005 x351006 x351007 x386000 x386001 x386002 x386003 x386004 x386005 x386006 x386007 x419000 x419001 x419002 x419003 x419004 x419005 x419006 x419007) else (laws_FnExactReplyTo.j1 k x1 x2 x3 x11 true x351000 x351001 x351002 x351003 x351004 x351005 x351006 x351007 x386000 x386001 x386002 x386003 x386004 x386005 x386006 x386007 x419000 x419001 x419002 x419003 x419004 x419005 x419006 x419007))))))) else (some false)))) else (some false)))) else (some false))))
def laws_FnExactReplyTo.j1 : Nat → Int → List (S71) → List (S71) → Bool → Bool → Int → Bool → Bool → Int → ByteArray → Int → List (S71) → List (S71) → Int → Bool → Bool → Int → ByteArray → Int → List (S72) → List (S72) → Int → Bool → Bool → Int → ByteArray → Int → List (S72) → List (S72) → Option (Bool)
 | 0, _, _, _, _, _, _, _, _, _, _, _, _, _, _, _, _, _, _, _, _, _, _, _, _, _, _, _, _, _ => none
 | k + 1, x1, x2, x3, x11, x107, x351000, x351001, x351002, x351003, x351004, x351005, x351006, x351007, x386000, x386001, x386002, x386003, x386004, x386005, x386006, x386007, x419000, x419001, x419002, x419003, x419004, x419005, x419006, x419007 => if x107 = true then (some false) else ((laws_markMessage.f k x419000 x419001 x419002 x419003 x419004 x419005 x419006 x419007 1).bind fun bt449 => ((laws_heldMessage.f k x419000 x419001 x419002 x419003 x419004 x419005 bt449.2.1 bt449.2.2 1).bind fun t452 => (if t452 < 0 then (some false) else (if t452 = bt449.1 then ((laws_toMessage.f k x351000 x351001 x351002 x351003 x351004 x351005 x351006 x351007).bind fun bt453 => ((laws_toRecordS.f k x2).bind fun t465 => ((laws_toRecordS.f k x3).bind fun t468 => ((impl_ReplyTo.f k bt453.1 bt453.2.1 bt453.2.2.1 bt453.2.2.2.1 bt453.2.2.2.2.1 bt453.2.2.2.2.2.1 bt453.2.2.2.2.2.2.1 bt453.2.2.2.2.2.2.2 x1 t465 t468).bind fun bt471 => ((laws_eqMessage.f k bt471.1 bt471.2.1 bt471.2.2.1 bt471.2.2.2.1 bt471.2.2.2.2.1 bt471.2.2.2.2.2.1 bt471.2.2.2.2.2.2.1 bt471.2.2.2.2.2.2.2.1 x386000 x386001 x386002 x386003 x386004 x386005 x386006 x386007).bind fun t485 => (if t485 = true then (laws_FnExactReplyTo.j2 k bt449.1 (bt471.2.2.2.2.2.2.2.2 != x11) x419000 x419001 x419002 x419003 x419004 x419005 bt449.2.1 bt449.2.2) else (laws_FnExactReplyTo.j2 k bt449.1 true x419000 x419001 x419002 x419003 x419004 x419005 bt449.2.1 bt449.2.2))))))) else (some false)))))
def laws_FnExactReplyTo.j2 : Nat → Int → Bool → Int → Bool → Bool → Int → ByteArray → Int → List (S72) → List (S72) → Option (Bool)
 | 0, _, _, _, _, _, _, _, _, _, _ => none
 | k + 1, x18, x138, x419000, x419001, x419002, x419003, x419004, x419005, x419006, x419007 => if x138 = true then (some false) else ((laws_heldMessage.f k x419000 x419001 x419002 x419003 x419004 x419005 x419006 x419007 1).bind fun t486 => (if t486 < 0 then (some false) else (if t486 = x18 then (some true) else (some false))))
end
def laws_FnExactReplyTo.f (k : Nat) (a0_0 : Int) (a0_1 : Bool) (a0_2 : Bool) (a0_3 : Int) (a0_4 : ByteArray) (a0_5 : Int) (l0_6 : List (S71)) (l0_7 : List (S71)) (a1 : Int) (l2 : List (S71)) (l3 : List (S71)) : Option (Bool) := (laws_szMessage.f k a0_0 a0_1 a0_2 a0_3 a0_4 a0_5 l0_6 l0_7 1048576).bind fun t351 => (if t351 < 0 then (some true) else ((laws_szRecordS.f k l2 t351).bind fun t352 => (if t352 < 0 then (some true) else ((laws_szRecordS.f k l3 t352).bind fun t353 => (if t353 < 0 then (some true) else ((laws_toMessage.f k a0_0 a0_1 a0_2 a0_3 a0_4 a0_5 l0_6 l0_7).bind fun bt354 => ((laws_toRecordS.f k l2).bind fun t366 => ((laws_toRecordS.f k l3).bind fun t369 => ((spec_ReplyTo.f k bt354.1 bt354.2.1 bt354.2.2.1 bt354.2.2.2.1 bt354.2.2.2.2.1 bt354.2.2.2.2.2.1 bt354.2.2.2.2.2.2.1 bt354.2.2.2.2.2.2.2 a1 t366 t369).bind fun bt372 => ((laws_toMessage.f k a0_0 a0_1 a0_2 a0_3 a0_4 a0_5 l0_6 l0_7).bind fun bt386 => ((laws_toRecordS.f k l2).bind fun t399 => ((laws_toRecordS.f k l3).bind fun t402 => ((impl_ReplyTo.f k bt386.1 bt386.2.1 bt386.2.2.1 bt386.2.2.2.1 bt386.2.2.2.2.1 bt386.2.2.2.2.2.1 bt386.2.2.2.2.2.2.1 bt386.2.2.2.2.2.2.2 a1 t399 t402).bind fun bt405 => ((laws_eqMessage.f k bt405.1 bt405.2.1 bt405.2.2.1 bt405.2.2.2.1 bt405.2.2.2.2.1 bt405.2.2.2.2.2.1 bt405.2.2.2.2.2.2.1 bt405.2.2.2.2.2.2.2.1 bt372.1 bt372.2.1 bt372.2.2.1 bt372.2.2.2.1 bt372.2.2.2.2.1 bt372.2.2.2.2.2.1 bt372.2.2.2.2.2.2.1 bt372.2.2.2.2.2.2.2.1).bind fun t419 => (if t419 = true then (laws_FnExactReplyTo.j0 k a1 l2 l3 bt372.2.2.2.2.2.2.2.2 t399 t402 bt405.2.2.2.2.2.2.2.2 (bt405.2.2.2.2.2.2.2.2 != bt372.2.2.2.2.2.2.2.2) a0_0 a0_1 a0_2 a0_3 a0_4 a0_5 l0_6 l0_7 bt372.1 bt372.2.1 bt372.2.2.1 bt372.2.2.2.1 bt372.2.2.2.2.1 bt372.2.2.2.2.2.1 bt372.2.2.2.2.2.2.1 bt372.2.2.2.2.2.2.2.1 bt386.1 bt386.2.1 bt386.2.2.1 bt386.2.2.2.1 bt386.2.2.2.2.1 bt386.2.2.2.2.2.1 bt386.2.2.2.2.2.2.1 bt386.2.2.2.2.2.2.2 bt405.1 bt405.2.1 bt405.2.2.1 bt405.2.2.2.1 bt405.2.2.2.2.1 bt405.2.2.2.2.2.1 bt405.2.2.2.2.2.2.1 bt405.2.2.2.2.2.2.2.1) else (laws_FnExactReplyTo.j0 k a1 l2 l3 bt372.2.2.2.2.2.2.2.2 t399 t402 bt405.2.2.2.2.2.2.2.2 true a0_0 a0_1 a0_2 a0_3 a0_4 a0_5 l0_6 l0_7 bt372.1 bt372.2.1 bt372.2.2.1 bt372.2.2.2.1 bt372.2.2.2.2.1 bt372.2.2.2.2.2.1 bt372.2.2.2.2.2.2.1 bt372.2.2.2.2.2.2.2.1 bt386.1 bt386.2.1 bt386.2.2.1 bt386.2.2.2.1 bt386.2.2.2.2.1 bt386.2.2.2.2.2.1 bt386.2.2.2.2.2.2.1 bt386.2.2.2.2.2.2.2 bt405.1 bt405.2.1 bt405.2.2.1 bt405.2.2.2.1 bt405.2.2.2.2.1 bt405.2.2.2.2.2.1 bt405.2.2.2.2.2.2.1 bt405.2.2.2.2.2.2.2.1))))))))))))))))
end Go.Proofs.YtkpkfallgjdkmaaGreatDoor.P
namespace Go.Proofs.YtkpkfallgjdkmaaGreatDoor.Pure
open Go.RowKit Go.Proofs.YtkpkfallgjdkmaaGreatDoor.P Go.Proofs.YtkpkfallgjdkmaaGreatDoorW.PrintWords Go.Proofs.YtkpkfallgjdkmaaGreatDoorW.PrintLast Go.Proofs.YtkpkfallgjdkmaaGreatDoorW.PrintMore
set_option linter.unusedVariables false
set_option linter.unusedSimpArgs false
theorem recs_both (x0 : List IRec) (l : List IRec) (hl : l.length < 1099511627776) (hs : ∀ y ∈ l, Small y.f0 ∧ Small y.f3) : ∀ (m i : Nat), i + m = l.length →
 ∃ g : Bool, Ev (fun k => spec_l4Records.l0 k x0 l (l.length : Int) (i : Int)) (g && decide ((x0.length : Int) ≤ 12)) ∧ Ev (fun k => impl_areRecords.f k (l.drop i)) g
 | 0, i, hi => by
  refine ⟨true, Ev.step (f := fun _ => some (decide ((x0.length : Int) ≤ 12))) (fun k => ?_) (Ev.now _), ?_⟩
  · show spec_l4Records.l0 (k + 1) x0 l (l.length : Int) (i : Int) = _
    rw [spec_l4Records.l0, if_neg (by omega)]
  · rw [List.drop_of_length_le (by omega)]
    exact Ev.congr (fun k => rfl) (Ev.now _)
 | m + 1, i, hi => by
  have hlt : i < l.length := by omega
  have hw : wrap64 ((i : Int) + 1) = ((i + 1 : Nat) : Int) := w64n (by omega)
  have hx := hs _ (List.getElem_mem hlt)
  obtain ⟨r, _, r1, r2, _⟩ := goodrec_both l[i].f0 l[i].f1 l[i].f2 l[i].f3 hx.1 hx.2
  obtain ⟨g, g1, g2⟩ := recs_both x0 l hl hs m (i + 1) (by omega)
  have es : ∀ k, spec_l4Records.l0 (k + 1) x0 l (l.length : Int) (i : Int) = (spec_GoodRecord.f k l[i].f0 l[i].f1 l[i].f2 l[i].f3).bind fun t341 => (if t341 = true then (spec_l4Records.l0 k x0 l (l.length : Int) ((i + 1 : Nat) : Int)) else (some false)) := fun k => by
   rw [spec_l4Records.l0, if_pos (by omega), if_pos (by omega), if_pos (by omega), rdI l i hlt, hw]
  have ei : ∀ k, impl_areRecords.f k (l.drop i) = (impl_GoodRecord.f k l[i].f0 l[i].f1 l[i].f2 l[i].f3).bind fun g => (if g = true then impl_areRecords.f k (l.drop (i + 1)) else some false) := fun k => by
   rw [List.drop_eq_getElem_cons hlt]
   rfl
  cases r with
  | true =>
   refine ⟨g, Ev.step es (Ev.bind r1 ?_), Ev.congr ei (Ev.bind r2 ?_)⟩
   · simp only [if_true]; exact g1
   · simp only [if_true]; exact g2
  | false => exact ⟨false, Ev.step es (Ev.bind r1 (Ev.now _)), Ev.congr ei (Ev.bind r2 (Ev.now _))⟩
theorem has_loop (L : List Int) (n : Int) (hl : L.length < 1099511627776) : ∀ (m i : Nat), i + m = L.length → Ev (fun k => spec_l1Has.l0 k n L (L.length : Int) (i : Int)) ((L.drop i).contains n)
 | 0, i, hi => by
  rw [List.drop_of_length_le (by omega)]
  refine Ev.step (f := fun _ => some false) (fun k => ?_) (Ev.now _)
  show spec_l1Has.l0 (k + 1) n L (L.length : Int) (i : Int) = _
  rw [spec_l1Has.l0, if_neg (by omega)]
 | m + 1, i, hi => by
  have hlt : i < L.length := by omega
  have hw : wrap64 ((i : Int) + 1) = ((i + 1 : Nat) : Int) := w64n (by omega)
  have hr : rd L (i : Int) = L[i] := by
   unfold rd
   rw [Int.toNat_natCast, List.getD_eq_getElem?_getD, List.getElem?_eq_getElem hlt, Option.getD_some]
  have ih := has_loop L n hl m (i + 1) (by omega)
  rw [List.drop_eq_getElem_cons hlt, List.contains_cons]
  by_cases c : L[i] = n
  · rw [show (n == L[i]) = true from beq_iff_eq.2 c.symm, Bool.true_or]
    refine Ev.step (f := fun _ => some true) (fun k => ?_) (Ev.now _)
    show spec_l1Has.l0 (k + 1) n L (L.length : Int) (i : Int) = _
    rw [spec_l1Has.l0, if_pos (by omega), if_pos (by omega), if_pos (by omega), hr, if_pos c]
  · rw [show (n == L[i]) = false from beq_eq_false_iff_ne.2 fun e => c e.symm, Bool.false_or]
    refine Ev.step (f := fun k => spec_l1Has.l0 k n L (L.length : Int) ((i + 1 : Nat) : Int)) (fun k => ?_) ih
    show spec_l1Has.l0 (k + 1) n L (L.length : Int) (i : Int) = _
    rw [spec_l1Has.l0, if_pos (by omega), if_pos (by omega), if_pos (by omega), hr, if_neg c, hw]
theorem has_ev (L : List Int) (n : Int) (hl : L.length < 1099511627776) : Ev (fun k => spec_l1Has.f k L n) (L.contains n) := Ev.congr (fun k => rfl) (has_loop L n hl L.length 0 (by omega))
theorem idx_loop (L : List Int) (n : Int) (hl : L.length < 1099511627776) : ∀ (m i : Nat), i + m = L.length → ∃ t, Ev (fun k => slices_Index_int_int.l0 k L n (L.length : Int) (i : Int)) t ∧ decide (t ≥ 0) = (L.drop i).contains n
 | 0, i, hi => by
  rw [List.drop_of_length_le (by omega)]
  refine ⟨-1, Ev.step (f := fun _ => some (-1)) (fun k => ?_) (Ev.now _), rfl⟩
  show slices_Index_int_int.l0 (k + 1) L n (L.length : Int) (i : Int) = _
  rw [slices_Index_int_int.l0, if_neg (by omega)]
 | m + 1, i, hi => by
  have hlt : i < L.length := by omega
  have hw : wrap64 ((i : Int) + 1) = ((i + 1 : Nat) : Int) := w64n (by omega)
  have hr : rd L (i : Int) = L[i] := by
   unfold rd
   rw [Int.toNat_natCast, List.getD_eq_getElem?_getD, List.getElem?_eq_getElem hlt, Option.getD_some]
  obtain ⟨t, e, ht⟩ := idx_loop L n hl m (i + 1) (by omega)
  rw [List.drop_eq_getElem_cons hlt, List.contains_cons]
  by_cases c : n = L[i]
  · rw [show (n == L[i]) = true from beq_iff_eq.2 c, Bool.true_or]
    refine ⟨(i : Int), Ev.step (f := fun _ => some (i : Int)) (fun k => ?_) (Ev.now _), decide_eq_true (by omega)⟩
    show slices_Index_int_int.l0 (k + 1) L n (L.length : Int) (i : Int) = _
    rw [slices_Index_int_int.l0, if_pos (by omega), if_pos (by omega), if_pos (by omega), hr, if_pos c]
  · rw [show (n == L[i]) = false from beq_eq_false_iff_ne.2 c, Bool.false_or]
    refine ⟨t, Ev.step (f := fun k => slices_Index_int_int.l0 k L n (L.length : Int) ((i + 1 : Nat) : Int)) (fun k => ?_) e, ht⟩
    show slices_Index_int_int.l0 (k + 1) L n (L.length : Int) (i : Int) = _
    rw [slices_Index_int_int.l0, if_pos (by omega), if_pos (by omega), if_pos (by omega), hr, if_neg c, hw]
theorem contains_ev (L : List Int) (n : Int) (hl : L.length < 1099511627776) : Ev (fun k => slices_Contains_int_int.f k L n) (L.contains n) := by
 obtain ⟨t, e, ht⟩ := idx_loop L n hl L.length 0 (by omega)
 have ht : decide (t ≥ 0) = L.contains n := ht
 refine Ev.congr (fun k => rfl) (Ev.bind (a := t) (Ev.congr (fun k => rfl) e) ?_)
 rw [ht]
 exact Ev.now _
theorem and_ev {f g : Nat → Option Bool} {b r : Bool} (h : Ev f b) (hg : Ev g r) : Ev (fun k => (f k).bind fun t => if t = true then g k else some false) (b && r) := by
 refine Ev.bind h ?_
 cases b with
 | true => simp only [if_true, Bool.true_and]; exact hg
 | false => exact Ev.now _
theorem gt_ev {n : Int} {g : Nat → Option Bool} {r : Bool} (hg : Ev g r) : Ev (fun k => if n > 12 then some false else g k) (decide (n ≤ 12) && r) := by
 by_cases h : n > 12
 · rw [decide_eq_false (by omega), Bool.false_and]
   simp only [if_pos h]
   exact Ev.now _
 · rw [decide_eq_true (by omega), Bool.true_and]
   simp only [if_neg h]
   exact hg
def msgB (id : Int) (re cu : Bool) (co : Int) (nm : List UInt8) (ty : Int) (n6 n7 : Int) (g6 g7 : Bool) : Bool :=
 decide (0 ≤ id ∧ id ≤ 65535) && (([0, 1, 3, 5] : List Int).contains co && (goodL nm && (([1, 2, 5, 6, 15, 16] : List Int).contains ty && ((g6 && decide (n6 ≤ 12)) && ((g7 && decide (n7 ≤ 12)) && (if re = true then true else (if cu = true then false else (if co = 0 then (if n6 = 0 then n7 == 0 else false) else false))))))))
theorem tail_ev (re cu : Bool) (co n6 n7 : Int) : Ev (fun _ => (if re = true then (some true) else (if cu = true then (some false) else (if co = 0 then (if n6 = 0 then (some (n7 == 0)) else (some false)) else (some false))))) (if re = true then true else (if cu = true then false else (if co = 0 then (if n6 = 0 then n7 == 0 else false) else false))) := by
 refine Ev.congr (f := fun _ => some (if re = true then true else (if cu = true then false else (if co = 0 then (if n6 = 0 then n7 == 0 else false) else false)))) (fun k => ?_) (Ev.now _)
 split
 · rfl
 · split
   · rfl
   · split
     · split <;> rfl
     · rfl
theorem msg_both (id : Int) (re cu : Bool) (co : Int) (nm : ByteArray) (ty : Int) (l6 l7 : List IRec) (hn : Small nm) (h6 : l6.length ≤ 1048576) (h7 : l7.length ≤ 1048576) (s6 : ∀ y ∈ l6, Small y.f0 ∧ Small y.f3) (s7 : ∀ y ∈ l7, Small y.f0 ∧ Small y.f3) :
 ∃ g6 g7 : Bool, Ev (fun k => impl_areRecords.f k l6) g6 ∧ Ev (fun k => impl_areRecords.f k l7) g7 ∧ Ev (fun k => spec_GoodMessage.f k id re cu co nm ty l6 l7) (msgB id re cu co nm.data.toList ty l6.length l7.length g6 g7) ∧ Ev (fun k => impl_GoodMessage.f k id re cu co nm ty l6 l7) (msgB id re cu co nm.data.toList ty l6.length l7.length g6 g7) := by
 obtain ⟨g6, a6, b6⟩ := recs_both l6 l6 (by omega) s6 l6.length 0 (by omega)
 obtain ⟨g7, a7, b7⟩ := recs_both l7 l7 (by omega) s7 l7.length 0 (by omega)
 rw [List.drop_zero] at b6 b7
 refine ⟨g6, g7, b6, b7, ?_, ?_⟩
 · refine Ev.congr (fun k => rfl) (and_ev (Ev.congr (fun k => within_spec _ _ _) (Ev.now _)) (and_ev (has_ev _ _ (by decide)) (and_ev (specGood_ev nm (by unfold Small at hn; omega)) (and_ev (Ev.congr (fun k => rfl) (Ev.bind (has_ev _ _ (by decide)) (Ev.now _))) (and_ev (Ev.congr (fun k => rfl) a6) (and_ev (Ev.congr (fun k => rfl) a7) (tail_ev _ _ _ _ _)))))))
 · have h := and_ev (f := fun k => impl_within.f id 0 65535) (Ev.congr (fun k => within_eq _ _ _) (Ev.now _)) (and_ev (f := fun k => impl_isCode.f k co) (Ev.congr (fun k => rfl) (Ev.bind (contains_ev _ _ (by decide)) (Ev.now _))) (and_ev (f := fun k => impl_GoodName.f nm) (Ev.congr (fun k => rfl) (Ev.now (goodL nm.data.toList))) (and_ev (f := fun k => impl_isType.f k ty) (Ev.congr (fun k => rfl) (Ev.bind (contains_ev _ _ (by decide)) (Ev.now _))) (gt_ev (n := (l6.length : Int)) (gt_ev (n := (l7.length : Int)) (and_ev b6 (and_ev b7 (tail_ev re cu co l6.length l7.length))))))))
   have h2 := Ev.congr (g := fun k => impl_GoodMessage.f k id re cu co nm ty l6 l7) (fun k => rfl) h
   refine Eq.mp (congrArg (Ev _) ?_) h2
   unfold msgB
   generalize (if re = true then true else (if cu = true then false else (if co = 0 then (if ((l6.length : Int)) = 0 then ((l7.length : Int) == 0) else false) else false))) = F
   generalize decide ((l6.length : Int) ≤ 12) = x6
   generalize decide ((l7.length : Int) ≤ 12) = x7
   cases g6 <;> cases g7 <;> cases x6 <;> cases x7 <;> simp
noncomputable def mark4 (a : Nat) : IRec := ⟨markT (a : Int), ((a + 1 : Nat) : Int), ((a + 2 : Nat) : Int), markT ((a + 3 : Nat) : Int)⟩
noncomputable def marksR (a n : Nat) : List IRec := (List.range n).map fun j => mark4 (a + 4 * j)
theorem marksR_len (a n : Nat) : (marksR a n).length = n := by simp [marksR]
theorem mR_w {n : Nat} (h : n < 4611686018427387904) : wrap64 ((n : Int) + 1) = ((n + 1 : Nat) : Int) := by unfold wrap64; omega
theorem rd_set (l : List IRec) (i : Nat) (x : IRec) (h : i < l.length) : rd_T72 (l.set i x) (i : Int) = x := by
 rw [rdI _ i (by rw [List.length_set]; exact h), List.getElem_set_self]
theorem markR_loop (a : Nat) (ha : a < 1000000000) : ∀ (m i : Nat) (l : List IRec), i + m = l.length → l.length ≤ 1048576 → l.take i = marksR a i →
 Ev (fun k => laws_markRecordS.l0 k l ((a + 4 * i : Nat) : Int) (i : Int)) (((a + 4 * l.length : Nat) : Int), marksR a l.length)
 | 0, i, l, h, hl, ht => by
  have hi : i = l.length := by omega
  subst hi
  refine Ev.step (f := fun _ => some (((a + 4 * l.length : Nat) : Int), marksR a l.length)) (fun k => ?_) (Ev.now _)
  show laws_markRecordS.l0 (k + 1) l ((a + 4 * l.length : Nat) : Int) (l.length : Int) = _
  rw [laws_markRecordS.l0, if_neg (by omega)]
  rw [List.take_length] at ht
  rw [← ht]
 | m + 1, i, l, h, hl, ht => by
  have hlt : i < l.length := by omega
  have ih := markR_loop a ha m (i + 1) (l.set i (mark4 (a + 4 * i))) (by rw [List.length_set]; omega) (by rw [List.length_set]; omega) (by
   rw [List.take_set, List.take_add_one, ht, List.getElem?_eq_getElem hlt]
   unfold marksR
   rw [List.range_succ, List.map_append]
   simp [List.set_append])
  rw [List.length_set] at ih
  have w1 : wrap64 (((a + 4 * i : Nat) : Int) + 1) = ((a + 4 * i + 1 : Nat) : Int) := mR_w (by omega)
  have w2 : wrap64 (((a + 4 * i + 1 : Nat) : Int) + 1) = ((a + 4 * i + 2 : Nat) : Int) := mR_w (by omega)
  have w3 : wrap64 (((a + 4 * i + 2 : Nat) : Int) + 1) = ((a + 4 * i + 3 : Nat) : Int) := mR_w (by omega)
  have w4 : wrap64 (((a + 4 * i + 3 : Nat) : Int) + 1) = ((a + 4 * (i + 1) : Nat) : Int) := mR_w (by omega)
  have w5 : wrap64 ((i : Int) + 1) = ((i + 1 : Nat) : Int) := mR_w (by omega)
  refine Ev.step (f := fun k => (laws_markText.f k ((a + 4 * i : Nat) : Int)).bind fun t => (laws_markText.f k ((a + 4 * i + 3 : Nat) : Int)).bind fun t' => laws_markRecordS.l0 k (l.set i ⟨t, ((a + 4 * i + 1 : Nat) : Int), ((a + 4 * i + 2 : Nat) : Int), t'⟩) ((a + 4 * (i + 1) : Nat) : Int) ((i + 1 : Nat) : Int)) (fun k => ?_) (Ev.bind (markT_ev _ (by omega)) (Ev.bind (markT_ev _ (by omega)) ih))
  show laws_markRecordS.l0 (k + 1) l ((a + 4 * i : Nat) : Int) (i : Int) = _
  rw [laws_markRecordS.l0, if_pos (by omega)]
  simp only [w1, w2, w3, w4, w5, Option.bind_some, Int.toNat_natCast, if_pos (show (0 : Int) ≤ (i : Int) by omega)]
  congr 1
  funext t
  have hr : ∀ x, rd_T72 (l.set i x) (i : Int) = x := fun x => rd_set l i x hlt
  simp only [List.set_set, hr]
theorem markR_ev (a : Nat) (ha : a < 1000000000) (l : List IRec) (hl : l.length ≤ 1048576) : Ev (fun k => laws_markRecordS.f k l (a : Int)) (((a + 4 * l.length : Nat) : Int), marksR a l.length) := by
 have := markR_loop a ha l.length 0 l (by omega) hl (by simp [marksR])
 exact Ev.congr (fun k => rfl) this
theorem heldR_loop (a n : Nat) (ha : a < 1000000000) (hn : n ≤ 1048576) : ∀ (m i : Nat), i + m = n → Ev (fun k => laws_heldRecordS.l0 k (marksR a n) ((a + 4 * i : Nat) : Int) (i : Int)) ((a + 4 * n : Nat) : Int)
 | 0, i, h => by
  have hi : i = n := by omega
  subst hi
  refine Ev.step (f := fun _ => some ((a + 4 * i : Nat) : Int)) (fun k => ?_) (Ev.now _)
  show laws_heldRecordS.l0 (k + 1) (marksR a i) ((a + 4 * i : Nat) : Int) (i : Int) = _
  rw [laws_heldRecordS.l0, if_neg (by rw [marksR_len]; omega)]
 | m + 1, i, h => by
  have hlt : i < (marksR a n).length := by rw [marksR_len]; omega
  have ih := heldR_loop a n ha hn m (i + 1) (by omega)
  have w1 : wrap64 (((a + 4 * i : Nat) : Int) + 1) = ((a + 4 * i + 1 : Nat) : Int) := mR_w (by omega)
  have w2 : wrap64 (((a + 4 * i + 1 : Nat) : Int) + 1) = ((a + 4 * i + 2 : Nat) : Int) := mR_w (by omega)
  have w3 : wrap64 (((a + 4 * i + 2 : Nat) : Int) + 1) = ((a + 4 * i + 3 : Nat) : Int) := mR_w (by omega)
  have w4 : wrap64 (((a + 4 * i + 3 : Nat) : Int) + 1) = ((a + 4 * (i + 1) : Nat) : Int) := mR_w (by omega)
  have w5 : wrap64 ((i : Int) + 1) = ((i + 1 : Nat) : Int) := mR_w (by omega)
  have hr : rd_T72 (marksR a n) (i : Int) = mark4 (a + 4 * i) := by
   rw [rdI _ i hlt]
   show ((List.range n).map fun j => mark4 (a + 4 * j))[i]'(by simpa [marksR] using hlt) = _
   rw [List.getElem_map, List.getElem_range]
  refine Ev.step (f := fun k => (laws_markText.f k ((a + 4 * i : Nat) : Int)).bind fun t => (if (markT ((a + 4 * i : Nat) : Int)).toList = t.toList then ((laws_markText.f k ((a + 4 * i + 3 : Nat) : Int)).bind fun t' => (if (markT ((a + 4 * i + 3 : Nat) : Int)).toList = t'.toList then laws_heldRecordS.l0 k (marksR a n) ((a + 4 * (i + 1) : Nat) : Int) ((i + 1 : Nat) : Int) else some (-1))) else some (-1))) (fun k => ?_) (Ev.bind (markT_ev _ (by omega)) ?_)
  · show laws_heldRecordS.l0 (k + 1) (marksR a n) ((a + 4 * i : Nat) : Int) (i : Int) = _
    rw [laws_heldRecordS.l0, if_pos (by omega), if_pos (by omega), hr]
    simp only [w1, w2, w3, w4, w5, mark4, if_true]
  · simp only [if_true]
    refine Ev.bind (markT_ev _ (by omega)) ?_
    simp only [if_true]
    exact ih
theorem heldR_ev (a n : Nat) (ha : a < 1000000000) (hn : n ≤ 1048576) : Ev (fun k => laws_heldRecordS.f k (marksR a n) (a : Int)) ((a + 4 * n : Nat) : Int) :=
 Ev.congr (fun k => rfl) (heldR_loop a n ha hn n 0 (by omega))
end Go.Proofs.YtkpkfallgjdkmaaGreatDoor.Pure
