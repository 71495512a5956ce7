/- FnExactReplyTo: part 23 of 23 of my texts for this claim, joined; the theorem stands in the last. Conditions: none beyond the statement's. -/
import Derived.Test.YtkpkfallgjdkmaaGreatDoorMFnExactReplyTox21
import Derived.Test.YtkpkfallgjdkmaaGreatDoorCards
import Derived.Test.YtkpkfallgjdkmaaGreatDoorTie
import Derived.Deep.DeepHandedRow
import Derived.Stop.LaidErr
namespace Go.Proofs.YtkpkfallgjdkmaaGreatDoor.Pure
open Go.RowKit Go.Proofs.YtkpkfallgjdkmaaGreatDoor.P Go.Proofs.YtkpkfallgjdkmaaGreatDoorW.PrintWords Go.Proofs.YtkpkfallgjdkmaaGreatDoorW.PrintLast Go.Proofs.YtkpkfallgjdkmaaGreatDoorW.PrintMore
set_option linter.unusedVariables false
set_option linter.unusedSimpArgs false
theorem szM2_ev (id : Int) (re cu : Bool) (co : Int) (nm : ByteArray) (ty : Int) (l6 l7 : List LRec) (h4 : nm.size ≤ maxLen) (m6 : l6.length ≤ maxLen) (w6 : ∀ y ∈ l6, y.f0.size ≤ maxLen ∧ y.f3.size ≤ maxLen) (m7 : l7.length ≤ maxLen) (w7 : ∀ y ∈ l7, y.f0.size ≤ maxLen ∧ y.f3.size ≤ maxLen) :
 ∃ t, Ev (fun k => laws_szMessage.f k id re cu co nm ty l6 l7 1048576) t ∧ (0 ≤ t → t ≤ 1048576 ∧ Small nm ∧ l6.length ≤ 1048576 ∧ (∀ y ∈ l6, Small y.f0 ∧ Small y.f3) ∧ l7.length ≤ 1048576 ∧ (∀ y ∈ l7, Small y.f0 ∧ Small y.f3)) := by
 have hw : wrap64 (1048576 - (nm.size : Int)) = 1048576 - (nm.size : Int) := by simp only [maxLen] at h4; unfold wrap64; omega
 by_cases hn : 1048576 - (nm.size : Int) < 0
 · refine ⟨-1, Ev.congr (f := fun _ => some (-1)) (fun k => ?_) (Ev.now _), fun h => absurd h (by omega)⟩
   unfold laws_szMessage.f
   rw [hw, if_pos hn]
 · obtain ⟨t6, e6, q6⟩ := szRS_ev l6 (1048576 - (nm.size : Int)) (by omega) (by omega) m6 w6
   have hf : ∀ k, laws_szMessage.f k id re cu co nm ty l6 l7 1048576 = ((laws_szRecordS.f k l6 (1048576 - (nm.size : Int))).bind fun t332 => (if t332 < 0 then (some (-1)) else ((laws_szRecordS.f k l7 t332).bind fun t333 => (if t333 < 0 then (some (-1)) else (some t333))))) := fun k => by
    unfold laws_szMessage.f
    rw [hw, if_neg hn]
   by_cases h6 : t6 < 0
   · refine ⟨-1, Ev.congr hf (Ev.bind e6 ?_), fun h => absurd h (by omega)⟩
     simp only [if_pos h6]; exact Ev.now _
   · obtain ⟨p1, p2, p3⟩ := q6 (by omega)
     obtain ⟨t7, e7, q7⟩ := szRS_ev l7 t6 (by omega) (by omega) m7 w7
     by_cases h7 : t7 < 0
     · refine ⟨-1, Ev.congr hf (Ev.bind e6 ?_), fun h => absurd h (by omega)⟩
       simp only [if_neg h6]
       refine Ev.bind e7 ?_
       simp only [if_pos h7]; exact Ev.now _
     · obtain ⟨r1, r2, r3⟩ := q7 (by omega)
       refine ⟨t7, Ev.congr hf (Ev.bind e6 ?_), fun h => ⟨by omega, by unfold Small; omega, p2, p3, r2, r3⟩⟩
       simp only [if_neg h6]
       refine Ev.bind e7 ?_
       simp only [if_neg h7]; exact Ev.now _
theorem toM2_ev (id : Int) (re cu : Bool) (co : Int) (nm : ByteArray) (ty : Int) (l6 l7 : List LRec) (h6 : l6.length ≤ 1048576) (h7 : l7.length ≤ 1048576) : Ev (fun k => laws_toMessage.f k id re cu co nm ty l6 l7) (id, re, cu, co, nm, ty, l6.map conv, l7.map conv) :=
 Ev.congr (fun k => rfl) (Ev.bind (toRS_ev l6 h6) (Ev.bind (toRS_ev l7 h7) (Ev.now _)))
theorem eqM2_ev (id : Int) (re cu : Bool) (co : Int) (nm : ByteArray) (ty : Int) (l6 l7 : List IRec) (h6 : l6.length ≤ 1048576) (h7 : l7.length ≤ 1048576) : Ev (fun k => laws_eqMessage.f k id re cu co nm ty l6 l7 id re cu co nm ty l6 l7) true := by
 unfold laws_eqMessage.f
 simp only [if_true, bne_self_eq_false, Bool.false_eq_true, if_false]
 exact Ev.bind (eqRS_ev l6 h6) (Ev.bind (eqRS_ev l7 h7) (Ev.now _))
theorem markM_ev (a : Nat) (ha : a < 100000000) (id : Int) (re cu : Bool) (co : Int) (nm : ByteArray) (ty : Int) (l6 l7 : List IRec) (h6 : l6.length ≤ 1048576) (h7 : l7.length ≤ 1048576) : Ev (fun k => laws_markMessage.f k id re cu co nm ty l6 l7 (a : Int)) (((a + 4 * l6.length + 4 * l7.length : Nat) : Int), marksR a l6.length, marksR (a + 4 * l6.length) l7.length) :=
 Ev.congr (fun k => rfl) (Ev.bind (markR_ev a (by omega) l6 h6) (Ev.bind (markR_ev (a + 4 * l6.length) (by omega) l7 h7) (Ev.now _)))
theorem heldM_ev (a : Nat) (ha : a < 100000000) (id : Int) (re cu : Bool) (co : Int) (nm : ByteArray) (ty : Int) (n6 n7 : Nat) (h6 : n6 ≤ 1048576) (h7 : n7 ≤ 1048576) : Ev (fun k => laws_heldMessage.f k id re cu co nm ty (marksR a n6) (marksR (a + 4 * n6) n7) (a : Int)) ((a + 4 * n6 + 4 * n7 : Nat) : Int) := by
 refine Ev.congr (fun k => rfl) (Ev.bind (heldR_ev a n6 (by omega) h6) ?_)
 simp only [if_neg (show ¬ ((a + 4 * n6 : Nat) : Int) < 0 by omega)]
 refine Ev.bind (heldR_ev (a + 4 * n6) n7 (by omega) h7) ?_
 simp only [if_neg (show ¬ ((a + 4 * n6 + 4 * n7 : Nat) : Int) < 0 by omega)]
 exact Ev.now _
theorem msgB_cut {id : Int} {cu : Bool} {co : Int} {nm : List UInt8} {ty n6 n7 : Int} {g6 g7 : Bool} (h : msgB id false cu co nm ty n6 n7 g6 g7 = true) : cu = false := by
 unfold msgB at h
 cases cu with
 | false => rfl
 | true => simp at h
theorem reply_both (id : Int) (re cu : Bool) (co : Int) (nm : ByteArray) (ty : Int) (l6 l7 : List IRec) (code : Int) (an au : List IRec) (hn : Small nm) (h6 : l6.length ≤ 1048576) (h7 : l7.length ≤ 1048576) (s6 : ∀ y ∈ l6, Small y.f0 ∧ Small y.f3) (s7 : ∀ y ∈ l7, Small y.f0 ∧ Small y.f3)
 (ha : an.length ≤ 1048576) (hu : au.length ≤ 1048576) (sa : ∀ y ∈ an, Small y.f0 ∧ Small y.f3) (su : ∀ y ∈ au, Small y.f0 ∧ Small y.f3) :
 ∃ (i : Int) (r c : Bool) (o : Int) (n : ByteArray) (t : Int) (A B : List IRec) (ok : Bool), A.length ≤ 1048576 ∧ B.length ≤ 1048576 ∧ Ev (fun k => spec_ReplyTo.f k id re cu co nm ty l6 l7 code an au) (i, r, c, o, n, t, A, B, ok) ∧ Ev (fun k => impl_ReplyTo.f k id re cu co nm ty l6 l7 code an au) (i, r, c, o, n, t, A, B, ok) := by
 obtain ⟨g6, g7, _, _, m1, m2⟩ := msg_both id re cu co nm ty l6 l7 hn h6 h7 s6 s7
 obtain ⟨p6, p7, _, _, o1, o2⟩ := msg_both id true false code nm ty an au hn ha hu sa su
 have jb : Ev (fun k => spec_ReplyTo.j0 k code an au true id re cu co nm ty l6 l7) (0, false, false, 0, (⟨#[]⟩ : ByteArray), 0, [], [], false) :=
  Ev.step (f := fun _ => some (0, false, false, 0, (⟨#[]⟩ : ByteArray), 0, [], [], false)) (fun k => by rw [spec_ReplyTo.j0, if_pos rfl]) (Ev.now _)
 have ei : ∀ k, impl_ReplyTo.f k id re cu co nm ty l6 l7 code an au = (impl_GoodMessage.f k id re cu co nm ty l6 l7).bind fun t348 => (if t348 = true then (if re = true then (some (0, false, false, 0, (⟨#[]⟩ : ByteArray), 0, ([] : List IRec), ([] : List IRec), false)) else ((impl_GoodMessage.f k id true false code nm ty an au).bind fun t349 => (if t349 = true then (some (id, true, false, code, nm, ty, an, au, true)) else (some (0, false, false, 0, (⟨#[]⟩ : ByteArray), 0, ([] : List IRec), ([] : List IRec), false))))) else (some (0, false, false, 0, (⟨#[]⟩ : ByteArray), 0, ([] : List IRec), ([] : List IRec), false))) := fun k => by
  unfold impl_ReplyTo.f slices_Clone_rec.f
  rw [if_pos (by omega), if_pos (by omega)]
  rfl
 cases hB : msgB id re cu co nm.data.toList ty l6.length l7.length g6 g7 with
 | false =>
  rw [hB] at m1 m2
  refine ⟨0, false, false, 0, (⟨#[]⟩ : ByteArray), 0, [], [], false, by decide, by decide, Ev.congr (fun k => rfl) (Ev.bind m1 ?_), Ev.congr ei (Ev.bind m2 (Ev.now _))⟩
  simp only [Bool.false_eq_true, if_false]
  exact jb
 | true =>
  rw [hB] at m1 m2
  cases re with
  | true =>
   refine ⟨0, false, false, 0, (⟨#[]⟩ : ByteArray), 0, [], [], false, by decide, by decide, Ev.congr (fun k => rfl) (Ev.bind m1 ?_), Ev.congr ei (Ev.bind m2 (Ev.now _))⟩
   simp only [if_true]
   exact jb
  | false =>
   obtain rfl := msgB_cut hB
   have hj : ∀ (R : Int × Bool × Bool × Int × ByteArray × Int × (List IRec) × (List IRec) × Bool), Ev (fun k => (spec_GoodMessage.f k id true false code nm ty an au).bind fun t317 => (if t317 = true then (some (id, true, false, code, nm, ty, an, au, true)) else (some (0, false, false, 0, (⟨#[]⟩ : ByteArray), 0, ([] : List IRec), ([] : List IRec), false)))) R → Ev (fun k => spec_ReplyTo.j0 k code an au false id false false co nm ty l6 l7) R := fun R hR => by
    refine Ev.step (fun k => ?_) hR
    rw [spec_ReplyTo.j0, if_neg (by decide), Option.bind_some, if_pos (by simp; omega), Option.bind_some, Option.bind_some, if_pos (by simp; omega), Option.bind_some]
    rfl
   cases hC : msgB id true false code nm.data.toList ty an.length au.length p6 p7 with
   | false =>
    rw [hC] at o1 o2
    refine ⟨0, false, false, 0, (⟨#[]⟩ : ByteArray), 0, [], [], false, by decide, by decide, Ev.congr (fun k => rfl) (Ev.bind m1 ?_), Ev.congr ei (Ev.bind m2 ?_)⟩
    · simp only [if_true]
      exact hj _ (Ev.bind o1 (Ev.now _))
    · simp only [if_true, Bool.false_eq_true, if_false]
      exact Ev.bind o2 (Ev.now _)
   | true =>
    rw [hC] at o1 o2
    refine ⟨id, true, false, code, nm, ty, an, au, true, ha, hu, Ev.congr (fun k => rfl) (Ev.bind m1 ?_), Ev.congr ei (Ev.bind m2 ?_)⟩
    · simp only [if_true]
      exact hj _ (Ev.bind o1 (Ev.now _))
    · simp only [if_true, Bool.false_eq_true, if_false]
      exact Ev.bind o2 (Ev.now _)
theorem FnExactReplyTo : ∀ (id : Int) (re cu : Bool) (co : Int) (nm : ByteArray) (ty : Int) (l6 l7 : List LRec) (code : Int) (an au : List LRec), nm.size ≤ maxLen → l6.length ≤ maxLen → (∀ y ∈ l6, y.f0.size ≤ maxLen ∧ y.f3.size ≤ maxLen) → l7.length ≤ maxLen → (∀ y ∈ l7, y.f0.size ≤ maxLen ∧ y.f3.size ≤ maxLen) → an.length ≤ maxLen → (∀ y ∈ an, y.f0.size ≤ maxLen ∧ y.f3.size ≤ maxLen) → au.length ≤ maxLen → (∀ y ∈ au, y.f0.size ≤ maxLen ∧ y.f3.size ≤ maxLen) → ∃ k, laws_FnExactReplyTo.f k id re cu co nm ty l6 l7 code an au = some true := by
 intro id re cu co nm ty l6 l7 code an au h4 m6 w6 m7 w7 ma wa mu wu
 suffices h : Ev (fun k => laws_FnExactReplyTo.f k id re cu co nm ty l6 l7 code an au) true from h.rounds
 obtain ⟨t, e, q⟩ := szM2_ev id re cu co nm ty l6 l7 h4 m6 w6 m7 w7
 refine Ev.congr (fun k => rfl) (Ev.bind e ?_)
 by_cases ht : t < 0
 · simp only [if_pos ht]; exact Ev.now _
 · obtain ⟨q0, q1, q2, q3, q4, q5⟩ := q (by omega)
   obtain ⟨ta, ea, qa⟩ := szRS_ev an t (by omega) q0 ma wa
   simp only [if_neg ht]
   refine Ev.bind ea ?_
   by_cases hta : ta < 0
   · simp only [if_pos hta]; exact Ev.now _
   · obtain ⟨qa0, qa1, qa2⟩ := qa (by omega)
     obtain ⟨tu, eu, qu⟩ := szRS_ev au ta (by omega) (by omega) mu wu
     simp only [if_neg hta]
     refine Ev.bind eu ?_
     by_cases htu : tu < 0
     · simp only [if_pos htu]; exact Ev.now _
     · obtain ⟨qu0, qu1, qu2⟩ := qu (by omega)
       simp only [if_neg htu]
       have l6' : (l6.map conv).length ≤ 1048576 := by rw [List.length_map]; exact q2
       have l7' : (l7.map conv).length ≤ 1048576 := by rw [List.length_map]; exact q4
       have la' : (an.map conv).length ≤ 1048576 := by rw [List.length_map]; exact qa1
       have lu' : (au.map conv).length ≤ 1048576 := by rw [List.length_map]; exact qu1
       obtain ⟨i, r, c, o, n, ty', A, B, ok, hA, hB, r1, r2⟩ := reply_both id re cu co nm ty (l6.map conv) (l7.map conv) code (an.map conv) (au.map conv) q1 l6' l7' (small_conv q3) (small_conv q5) la' lu' (small_conv qa2) (small_conv qu2)
       have eM := toM2_ev id re cu co nm ty l6 l7 q2 q4
       have eA := toRS_ev an qa1
       have eU := toRS_ev au qu1
       have eX := eqM2_ev id re cu co nm ty (l6.map conv) (l7.map conv) l6' l7'
       have eG := eqM2_ev i r c o n ty' A B hA hB
       have mX : Ev (fun k => laws_markMessage.f k id re cu co nm ty (l6.map conv) (l7.map conv) 1) (((1 + 4 * (l6.map conv).length + 4 * (l7.map conv).length : Nat) : Int), marksR 1 (l6.map conv).length, marksR (1 + 4 * (l6.map conv).length) (l7.map conv).length) := markM_ev 1 (by omega) id re cu co nm ty _ _ l6' l7'
       have mA := markR_ev (1 + 4 * (l6.map conv).length + 4 * (l7.map conv).length) (by omega) (an.map conv) la'
       have mU := markR_ev (1 + 4 * (l6.map conv).length + 4 * (l7.map conv).length + 4 * (an.map conv).length) (by omega) (au.map conv) lu'
       have mG : Ev (fun k => laws_markMessage.f k i r c o n ty' A B 1) (((1 + 4 * A.length + 4 * B.length : Nat) : Int), marksR 1 A.length, marksR (1 + 4 * A.length) B.length) := markM_ev 1 (by omega) i r c o n ty' A B hA hB
       have hG : Ev (fun k => laws_heldMessage.f k i r c o n ty' (marksR 1 A.length) (marksR (1 + 4 * A.length) B.length) 1) ((1 + 4 * A.length + 4 * B.length : Nat) : Int) := heldM_ev 1 (by omega) i r c o n ty' A.length B.length hA hB
       refine Ev.bind eM (Ev.bind eA (Ev.bind eU (Ev.bind r1 (Ev.bind eM (Ev.bind eA (Ev.bind eU (Ev.bind r2 (Ev.bind eG ?_))))))))
       simp only [bne_self_eq_false, if_true]
       have j2 : Ev (fun k => laws_FnExactReplyTo.j2 k ((1 + 4 * A.length + 4 * B.length : Nat) : Int) false i r c o n ty' (marksR 1 A.length) (marksR (1 + 4 * A.length) B.length)) true := by
        refine Ev.step (fun k => by rw [laws_FnExactReplyTo.j2, if_neg (by decide)]) (Ev.bind hG ?_)
        simp only [if_neg (show ¬ ((1 + 4 * A.length + 4 * B.length : Nat) : Int) < 0 by omega), if_true]
        exact Ev.now _
       have j1 : Ev (fun k => laws_FnExactReplyTo.j1 k code an au ok false id re cu co nm ty l6 l7 i r c o n ty' A B i r c o n ty' A B) true := by
        refine Ev.step (fun k => by rw [laws_FnExactReplyTo.j1, if_neg (by decide)]) (Ev.bind mG (Ev.bind hG ?_))
        simp only [if_neg (show ¬ ((1 + 4 * A.length + 4 * B.length : Nat) : Int) < 0 by omega), if_true]
        refine Ev.bind eM (Ev.bind eA (Ev.bind eU (Ev.bind r2 (Ev.bind eG ?_))))
        simp only [bne_self_eq_false, if_true]
        exact j2
       refine Ev.step (fun k => by rw [laws_FnExactReplyTo.j0, if_neg (by decide)]) (Ev.bind eM (Ev.bind eX ?_))
       simp only [if_true]
       refine Ev.bind eA (Ev.bind (eqRS_ev (an.map conv) la') ?_)
       simp only [if_true]
       refine Ev.bind eU (Ev.bind (eqRS_ev (au.map conv) lu') ?_)
       simp only [if_true]
       refine Ev.bind mX (Ev.bind mA (Ev.bind mU ?_))
       simp only [if_neg (show ¬ ((1 + 4 * (l6.map conv).length + 4 * (l7.map conv).length + 4 * (an.map conv).length + 4 * (au.map conv).length : Nat) : Int) < 0 by omega)]
       refine Ev.bind eG ?_
       simp only [bne_self_eq_false, if_true]
       exact j1
end Go.Proofs.YtkpkfallgjdkmaaGreatDoor.Pure
namespace Go.Proofs.YtkpkfallgjdkmaaGreatDoor.fnExactReplyTo
open Go.ChangeShapes Go.WideShapes Go.ChangeAt Go.RowKit Go.Joins Go.Proofs.YtkpkfallgjdkmaaGreatDoor.P Go.Proofs.YtkpkfallgjdkmaaGreatDoorW.PrintWords
open Go.ChangeMaps (open_string shut_string)
set_option linter.unusedVariables false
theorem own : ownKnob Tryz.prog.godebug = none := by kernel_rfl
theorem laidOut : laidOutB Tryz.prog = true := by kernel_rfl
instance : Inhabited (P.S71) := ⟨P.z71⟩
theorem opens_rec : Opens Tryz.prog 71 P.k71 (fun x => x.f0.size ≤ maxLen ∧ x.f3.size ≤ maxLen) :=
  Opens.imp (opens_iso (f := fun x : P.S71 => (x.f0, x.f1, x.f2, x.f3)) (fun x => (⟨x.1, x.2.1, x.2.2.1, x.2.2.2⟩ : P.S71)) (fun _ => rfl) (opens_struct4 Tryz.underlying71 (by kernel_rfl) (by kernel_rfl) (opens_text Tryz.underlying9) (opens_int Tryz.underlying3) (opens_int Tryz.underlying3) (opens_text Tryz.underlying9))) fun x h => ⟨h.1, h.2.2.2⟩
theorem opens_recs : Opens Tryz.prog 30 (Kd.slice 71 P.k71) (fun l => l.length ≤ maxLen ∧ ∀ y ∈ l, y.f0.size ≤ maxLen ∧ y.f3.size ≤ maxLen) :=
  opens_slice Tryz.underlying30 (by kernel_rfl) opens_rec
noncomputable def low : Nat := (World.holding Tryz.prog default ⟨#[], #[], []⟩).heap.size
noncomputable def laidWorld (os : Os) : World :=
  { World.holding Tryz.prog os ⟨#[.cells #[.string { data := #[118, 97, 108, 117, 101, 32, 111, 117, 116, 32, 111, 102, 32, 114, 97, 110, 103, 101] }] 179, .cells #[.string { data := #[105, 110, 118, 97, 108, 105, 100, 32, 115, 121, 110, 116, 97, 120] }] 179], #[], []⟩ with heap := ((((((((World.holding Tryz.prog os ⟨#[.cells #[.string { data := #[118, 97, 108, 117, 101, 32, 111, 117, 116, 32, 111, 102, 32, 114, 97, 110, 103, 101] }] 179, .cells #[.string { data := #[105, 110, 118, 97, 108, 105, 100, 32, 115, 121, 110, 116, 97, 120] }] 179], #[], []⟩).heap.modify 4 fun
      | .cells _ t frozen => .cells #[.int .u8 0, .int .u8 1, .int .u8 28, .int .u8 2, .int .u8 29, .int .u8 14, .int .u8 24, .int .u8 3, .int .u8 30, .int .u8 22, .int .u8 20, .int .u8 15, .int .u8 25, .int .u8 17, .int .u8 4, .int .u8 8, .int .u8 31, .int .u8 27, .int .u8 13, .int .u8 23, .int .u8 21, .int .u8 19, .int .u8 16, .int .u8 7, .int .u8 26, .int .u8 12, .int .u8 18, .int .u8 6, .int .u8 11, .int .u8 5, .int .u8 10, .int .u8 9] t frozen
      | o => o).modify 5 fun
      | .cells _ t frozen => .cells #[.int .u8 0, .int .u8 1, .int .u8 56, .int .u8 2, .int .u8 57, .int .u8 49, .int .u8 28, .int .u8 3, .int .u8 61, .int .u8 58, .int .u8 42, .int .u8 50, .int .u8 38, .int .u8 29, .int .u8 17, .int .u8 4, .int .u8 62, .int .u8 47, .int .u8 59, .int .u8 36, .int .u8 45, .int .u8 43, .int .u8 51, .int .u8 22, .int .u8 53, .int .u8 39, .int .u8 33, .int .u8 30, .int .u8 24, .int .u8 18, .int .u8 12, .int .u8 5, .int .u8 63, .int .u8 55, .int .u8 48, .int .u8 27, .int .u8 60, .int .u8 41, .int .u8 37, .int .u8 16, .int .u8 46, .int .u8 35, .int .u8 44, .int .u8 21, .int .u8 52, .int .u8 32, .int .u8 23, .int .u8 11, .int .u8 54, .int .u8 26, .int .u8 40, .int .u8 15, .int .u8 34, .int .u8 20, .int .u8 31, .int .u8 10, .int .u8 25, .int .u8 14, .int .u8 19, .int .u8 9, .int .u8 13, .int .u8 8, .int .u8 7, .int .u8 6] t frozen
      | o => o).modify 1 fun
      | .cells _ t frozen => .cells #[.int .u64 1, .int .u64 10, .int .u64 100, .int .u64 1000, .int .u64 10000, .int .u64 100000, .int .u64 1000000, .int .u64 10000000, .int .u64 100000000, .int .u64 1000000000, .int .u64 10000000000, .int .u64 100000000000, .int .u64 1000000000000, .int .u64 10000000000000, .int .u64 100000000000000, .int .u64 1000000000000000, .int .u64 10000000000000000, .int .u64 100000000000000000, .int .u64 1000000000000000000, .int .u64 10000000000000000000] t frozen
      | o => o).modify 3 fun
      | .cells _ t frozen => .cells #[.int .u8 128, .int .u8 191, .int .u8 160, .int .u8 191, .int .u8 128, .int .u8 159, .int .u8 144, .int .u8 191, .int .u8 128, .int .u8 143, .int .u8 0, .int .u8 0, .int .u8 0, .int .u8 0, .int .u8 0, .int .u8 0, .int .u8 0, .int .u8 0, .int .u8 0, .int .u8 0, .int .u8 0, .int .u8 0, .int .u8 0, .int .u8 0, .int .u8 0, .int .u8 0, .int .u8 0, .int .u8 0, .int .u8 0, .int .u8 0, .int .u8 0, .int .u8 0] t frozen
      | o => o).modify 7 fun
      | .cells _ t frozen => .cells #[.iface 177 (.pointer (some ⟨low, 0, none⟩))] t frozen
      | o => o).modify 6 fun
      | .cells _ t frozen => .cells #[.iface 177 (.pointer (some ⟨low + 1, 0, none⟩))] t frozen
      | o => o).modify 2 fun
      | .cells _ t frozen => .cells #[.int .u8 240, .int .u8 240, .int .u8 240, .int .u8 240, .int .u8 240, .int .u8 240, .int .u8 240, .int .u8 240, .int .u8 240, .int .u8 240, .int .u8 240, .int .u8 240, .int .u8 240, .int .u8 240, .int .u8 240, .int .u8 240, .int .u8 240, .int .u8 240, .int .u8 240, .int .u8 240, .int .u8 240, .int .u8 240, .int .u8 240, .int .u8 240, .int .u8 240, .int .u8 240, .int .u8 240, .int .u8 240, .int .u8 240, .int .u8 240, .int .u8 240, .int .u8 240, .int .u8 240, .int .u8 240, .int .u8 240, .int .u8 240, .int .u8 240, .int .u8 240, .int .u8 240, .int .u8 240, .int .u8 240, .int .u8 240, .int .u8 240, .int .u8 240, .int .u8 240, .int .u8 240, .int .u8 240, .int .u8 240, .int .u8 240, .int .u8 240, .int .u8 240, .int .u8 240, .int .u8 240, .int .u8 240, .int .u8 240, .int .u8 240, .int .u8 240, .int .u8 240, .int .u8 240, .int .u8 240, .int .u8 240, .int .u8 240, .int .u8 240, .int .u8 240, .int .u8 240, .int .u8 240, .int .u8 240, .int .u8 240, .int .u8 240, .int .u8 240, .int .u8 240, .int .u8 240, .int .u8 240, .int .u8 240, .int .u8 240, .int .u8 240, .int .u8 240, .int .u8 240, .int .u8 240, .int .u8 240, .int .u8 240, .int .u8 240, .int .u8 240, .int .u8 240, .int .u8 240, .int .u8 240, .int .u8 240, .int .u8 240, .int .u8 240, .int .u8 240, .int .u8 240, .int .u8 240, .int .u8 240, .int .u8 240, .int .u8 240, .int .u8 240, .int .u8 240, .int .u8 240, .int .u8 240, .int .u8 240, .int .u8 240, .int .u8 240, .int .u8 240, .int .u8 240, .int .u8 240, .int .u8 240, .int .u8 240, .int .u8 240, .int .u8 240, .int .u8 240, .int .u8 240, .int .u8 240, .int .u8 240, .int .u8 240, .int .u8 240, .int .u8 240, .int .u8 240, .int .u8 240, .int .u8 240, .int .u8 240, .int .u8 240, .int .u8 240, .int .u8 240, .int .u8 240, .int .u8 240, .int .u8 240, .int .u8 240, .int .u8 240, .int .u8 241, .int .u8 241, .int .u8 241, .int .u8 241, .int .u8 241, .int .u8 241, .int .u8 241, .int .u8 241, .int .u8 241, .int .u8 241, .int .u8 241, .int .u8 241, .int .u8 241, .int .u8 241, .int .u8 241, .int .u8 241, .int .u8 241, .int .u8 241, .int .u8 241, .int .u8 241, .int .u8 241, .int .u8 241, .int .u8 241, .int .u8 241, .int .u8 241, .int .u8 241, .int .u8 241, .int .u8 241, .int .u8 241, .int .u8 241, .int .u8 241, .int .u8 241, .int .u8 241, .int .u8 241, .int .u8 241, .int .u8 241, .int .u8 241, .int .u8 241, .int .u8 241, .int .u8 241, .int .u8 241, .int .u8 241, .int .u8 241, .int .u8 241, .int .u8 241, .int .u8 241, .int .u8 241, .int .u8 241, .int .u8 241, .int .u8 241, .int .u8 241, .int .u8 241, .int .u8 241, .int .u8 241, .int .u8 241, .int .u8 241, .int .u8 241, .int .u8 241, .int .u8 241, .int .u8 241, .int .u8 241, .int .u8 241, .int .u8 241, .int .u8 241, .int .u8 241, .int .u8 241, .int .u8 2, .int .u8 2, .int .u8 2, .int .u8 2, .int .u8 2, .int .u8 2, .int .u8 2, .int .u8 2, .int .u8 2, .int .u8 2, .int .u8 2, .int .u8 2, .int .u8 2, .int .u8 2, .int .u8 2, .int .u8 2, .int .u8 2, .int .u8 2, .int .u8 2, .int .u8 2, .int .u8 2, .int .u8 2, .int .u8 2, .int .u8 2, .int .u8 2, .int .u8 2, .int .u8 2, .int .u8 2, .int .u8 2, .int .u8 2, .int .u8 19, .int .u8 3, .int .u8 3, .int .u8 3, .int .u8 3, .int .u8 3, .int .u8 3, .int .u8 3, .int .u8 3, .int .u8 3, .int .u8 3, .int .u8 3, .int .u8 3, .int .u8 35, .int .u8 3, .int .u8 3, .int .u8 52, .int .u8 4, .int .u8 4, .int .u8 4, .int .u8 68, .int .u8 241, .int .u8 241, .int .u8 241, .int .u8 241, .int .u8 241, .int .u8 241, .int .u8 241, .int .u8 241, .int .u8 241, .int .u8 241, .int .u8 241] t frozen
      | o => o) }
set_option maxRecDepth 100000 in
theorem laid_met (os : Os) : laidMet Tryz.prog Rows.fnExactReplyToRow.laid ((laidWorld os).forCall (fun _ _ => 0) ⟨#[], #[.agg #[.int .i64 0, .bool false, .bool false, .int .i64 0, .string ByteArray.empty, .int .i64 0, .slice none 0 0, .slice none 0 0], .int .i64 0, .slice none 0 0, .slice none 0 0], []⟩).memory :=
  laidMet_of_run' 8 (by kernel_rfl) (by kernel_rfl)
theorem ptr_row (u : TypeId) (h : Tryz.prog.typeName? 3 u = some "*errors.errorString") : u = 177 :=
  typeName_ptr_named (nm := "errors.errorString") (by rw [show "*" ++ "errors.errorString" = "*errors.errorString" by decide]; kernel_rfl) (by kernel_rfl) (by decide) u (by rw [show "*" ++ "errors.errorString" = "*errors.errorString" by decide]; exact h)
theorem vars_of {W : World} (hL : laidMet Tryz.prog Rows.fnExactReplyToRow.laid W) : P.Vars W := by
  obtain ⟨_, _, hs, -, -, -⟩ := laid_sentinel (n := "strconv.ErrSyntax") (g := 6) hL.tail.tail.tail.tail.tail (by kernel_rfl) (by kernel_rfl) Tryz.underlying140 ptr_row Tryz.underlying177 Tryz.underlying179 rfl rfl Tryz.underlying9 (by kernel_rfl) (by kernel_rfl)
  obtain ⟨_, _, hr, -, -, -⟩ := laid_sentinel (n := "strconv.ErrRange") (g := 7) hL.tail.tail.tail.tail (by kernel_rfl) (by kernel_rfl) Tryz.underlying140 ptr_row Tryz.underlying177 Tryz.underlying179 rfl rfl Tryz.underlying9 (by kernel_rfl) (by kernel_rfl)
  have hp : laidMet Tryz.prog (("internal/strconv.uint64pow10", Lib.tabData .u64 Lib.pow10Tab) :: _) W := hL.tail.tail
  have ht := Lib.tabIs_of_head (g := 1) (by kernel_rfl) (by kernel_rfl) Tryz.underlying148 Tryz.underlying130 (by kernel_rfl) (by kernel_rfl) hp
  exact ⟨⟨_, _, hs⟩, ⟨_, _, hr⟩, ht⟩
set_option maxRecDepth 100000 in
theorem contract (H : Type) (enc : TypeId × Value → H) (W : World) (base : Nat) (args : Array Value) (ds gs : List (DataW H)) (before : List MemPlace)
    (hval0 : ∀ (j : Nat) t v, Tryz.f4.params[j]? = some t → args[j]? = some v → Value.okWide Tryz.prog W .any base t v)
    (hW : DataW.Whole enc Tryz.prog Tryz.f4.params.toList Rows.fnExactReplyToSpec.vars false W args.toList ds gs before)
    (hsz0 : (DataW.weightsEach Tryz.prog (Tryz.f4.params.toList ++ Rows.fnExactReplyToSpec.plain.varTypes Tryz.prog) (ds ++ gs)).all (· ≤ reachBytes) = true) (hL : laidMet Tryz.prog Rows.fnExactReplyToRow.laid W) :
    Calls Tryz.prog 4 args W fun e W' => ∃ v, e = .returned v ∧ Rows.fnExactReplyToSpec.post enc Tryz.prog Tryz.f4 false true false false W args v W' := by
  have hsz : (DataW.weightsEach Tryz.prog (Tryz.f4.params.toList ++ Rows.fnExactReplyToSpec.plain.varTypes Tryz.prog) (ds ++ gs)).all (· ≤ reachBytes) = true := hsz0
  have hval : ∀ (j : Nat) t v, Tryz.f4.params[j]? = some t → args[j]? = some v → Value.okWide Tryz.prog W .any base t v := hval0
  have hW' := hW
  obtain ⟨p, q, hA0, hV, rfl, hfz, hnd⟩ := hW
  have hA : DataW.TrodAll enc Tryz.prog W 0 (fun _ => true) true Tryz.f4.params.toList args.toList ds p := hA0
  rw [Tryz.params4] at hA hval hsz
  obtain ⟨v0, vs0, d0, ds0, p0, q0, hargs, rfl, rfl, h0, r0⟩ := trodAll_cons hA
  obtain ⟨v1, vs1, d1, ds1, p1, q1, rfl, rfl, rfl, h1, r1⟩ := trodAll_cons r0
  obtain ⟨v2, vs2, d2, ds2, p2, q2, rfl, rfl, rfl, h2, r2⟩ := trodAll_cons r1
  obtain ⟨v3, vs3, d3, ds3, p3, q3, rfl, rfl, rfl, h3, r3⟩ := trodAll_cons r2
  obtain ⟨rfl, rfl, rfl⟩ := trodAll_nil r3
  obtain rfl : args = #[v0, v1, v2, v3] := by cases args; simp_all
  obtain ⟨rfl, rfl⟩ := trodVars_none hV
  have k0 := h0
  have lt0 : ∀ x ∈ p0, x.block < W.heap.size := by obtain ⟨m, hm⟩ := k0; exact DataW.trod_lt m _ _ _ hm
  obtain ⟨l0, n0, rfl, z0, f0⟩ := open_agg Tryz.underlying32 (by kernel_rfl) (by kernel_rfl) (hval 0 32 v0 rfl rfl) h0
  obtain ⟨c0_0, c0_1, c0_2, c0_3, c0_4, c0_5, c0_6, c0_7, rfl⟩ := list8 z0
  obtain ⟨y0_0, hy0_0⟩ := f0 0 _ c0_0 rfl rfl
  obtain ⟨g0_0, eg0_0, wg0_0⟩ := opens_int Tryz.underlying3 H enc W 0 _ true _ _ _ hy0_0
  obtain ⟨rfl, _⟩ := List.cons.inj eg0_0
  obtain ⟨y0_1, hy0_1⟩ := f0 1 _ c0_1 rfl rfl
  obtain ⟨g0_1, eg0_1, wg0_1⟩ := opens_bool Tryz.underlying4 H enc W 0 _ true _ _ _ hy0_1
  obtain ⟨rfl, _⟩ := List.cons.inj eg0_1
  obtain ⟨y0_2, hy0_2⟩ := f0 2 _ c0_2 rfl rfl
  obtain ⟨g0_2, eg0_2, wg0_2⟩ := opens_bool Tryz.underlying4 H enc W 0 _ true _ _ _ hy0_2
  obtain ⟨rfl, _⟩ := List.cons.inj eg0_2
  obtain ⟨y0_3, hy0_3⟩ := f0 3 _ c0_3 rfl rfl
  obtain ⟨g0_3, eg0_3, wg0_3⟩ := opens_int Tryz.underlying3 H enc W 0 _ true _ _ _ hy0_3
  obtain ⟨rfl, _⟩ := List.cons.inj eg0_3
  obtain ⟨y0_4, hy0_4⟩ := f0 4 _ c0_4 rfl rfl
  obtain ⟨g0_4, eg0_4, wg0_4⟩ := opens_text Tryz.underlying9 H enc W 0 _ true _ _ _ hy0_4
  obtain ⟨rfl, _⟩ := List.cons.inj eg0_4
  obtain ⟨y0_5, hy0_5⟩ := f0 5 _ c0_5 rfl rfl
  obtain ⟨g0_5, eg0_5, wg0_5⟩ := opens_int Tryz.underlying3 H enc W 0 _ true _ _ _ hy0_5
  obtain ⟨rfl, _⟩ := List.cons.inj eg0_5
  obtain ⟨y0_6, hy0_6⟩ := f0 6 _ c0_6 rfl rfl
  obtain ⟨g0_6, ⟨Ag0_6, cg0_6, eg0_6, lg0_6, rg0_6⟩, mg0_6, wg0_6⟩ := opens_recs H enc W 0 _ true _ _ _ hy0_6
  obtain ⟨rfl, _⟩ := List.cons.inj eg0_6
  obtain ⟨y0_7, hy0_7⟩ := f0 7 _ c0_7 rfl rfl
  obtain ⟨g0_7, ⟨Ag0_7, cg0_7, eg0_7, lg0_7, rg0_7⟩, mg0_7, wg0_7⟩ := opens_recs H enc W 0 _ true _ _ _ hy0_7
  obtain ⟨rfl, _⟩ := List.cons.inj eg0_7
  clear f0
  have k1 := h1
  have lt1 : ∀ x ∈ p1, x.block < W.heap.size := by obtain ⟨m, hm⟩ := k1; exact DataW.trod_lt m _ _ _ hm
  obtain ⟨a1, rfl, rfl, rfl, w1⟩ := open_int Tryz.underlying3 (hval 1 3 v1 rfl rfl) h1
  have k2 := h2
  have lt2 : ∀ x ∈ p2, x.block < W.heap.size := by obtain ⟨m, hm⟩ := k2; exact DataW.trod_lt m _ _ _ hm
  obtain ⟨s2, n2, b2, rfl⟩ := okWide_slice Tryz.underlying30 (hval 2 30 v2 rfl rfl)
  obtain ⟨u2, h2⟩ := h2
  have h2 : DataW.trod enc Tryz.prog W 0 (fun _ => true) true u2 30 [.slice s2 n2 b2] = some (d2, p2) := h2
  obtain ⟨g2, ⟨Ag2, cg2, eg2, lg2, rg2⟩, mg2, wg2⟩ := opens_recs H enc W 0 _ true _ _ _ h2
  obtain ⟨rfl, rfl, rfl⟩ : s2 = Ag2 ∧ n2 = g2.length ∧ b2 = cg2 := by simpa using eg2
  have k3 := h3
  have lt3 : ∀ x ∈ p3, x.block < W.heap.size := by obtain ⟨m, hm⟩ := k3; exact DataW.trod_lt m _ _ _ hm
  obtain ⟨s3, n3, b3, rfl⟩ := okWide_slice Tryz.underlying30 (hval 3 30 v3 rfl rfl)
  obtain ⟨u3, h3⟩ := h3
  have h3 : DataW.trod enc Tryz.prog W 0 (fun _ => true) true u3 30 [.slice s3 n3 b3] = some (d3, p3) := h3
  obtain ⟨g3, ⟨Ag3, cg3, eg3, lg3, rg3⟩, mg3, wg3⟩ := opens_recs H enc W 0 _ true _ _ _ h3
  obtain ⟨rfl, rfl, rfl⟩ : s3 = Ag3 ∧ n3 = g3.length ∧ b3 = cg3 := by simpa using eg3
  clear hA0 hval0 hsz0 hsz
  obtain ⟨k, hk⟩ := Pure.FnExactReplyTo g0_0 g0_1 g0_2 g0_3 g0_4 g0_5 g0_6 g0_7 a1 g2 g3 wg0_4 mg0_6 wg0_6 mg0_7 wg0_7 mg2 wg2 mg3 wg3
  refine (P.laws_FnExactReplyTo.calls k g0_0 g0_1 g0_2 g0_3 g0_4 g0_5 Ag0_6 cg0_6 g0_6 Ag0_7 cg0_7 g0_7 a1 s2 b2 g2 s3 b3 g3 true W rg0_6 lg0_6 rg0_7 lg0_7 rg2 lg2 rg3 lg3 hk (vars_of hL)).mono fun e W' ⟨he, bel⟩ => ?_
  subst he
  exact ⟨_, rfl, _, _, _, [], _, [], hW', trodAll_mk1 (shut_bool Tryz.underlying4 _), (trodAll_cons_mk (Below.trod laidOut (by kernel_rfl) (of_decide_eq_true (by kernel_rfl)) k0 bel lt0) (trodAll_cons_mk (Below.trod laidOut (by kernel_rfl) (of_decide_eq_true (by kernel_rfl)) k1 bel lt1) (trodAll_cons_mk (Below.trod laidOut (by kernel_rfl) (of_decide_eq_true (by kernel_rfl)) k2 bel lt2) (trodAll_cons_mk (Below.trod laidOut (by kernel_rfl) (of_decide_eq_true (by kernel_rfl)) k3 bel lt3) trodAll_mk0)))), rfl, bel.frame _, fun h => by cases h⟩
set_option maxRecDepth 100000 in
theorem reads (os : Os) {H : Type} (enc : TypeId × Value → H) : ∃ places, DataW.whole enc Tryz.prog ((laidWorld os).forCall (fun _ _ => 0) ⟨#[], #[.agg #[.int .i64 0, .bool false, .bool false, .int .i64 0, .string ByteArray.empty, .int .i64 0, .slice none 0 0, .slice none 0 0], .int .i64 0, .slice none 0 0, .slice none 0 0], []⟩).memory Tryz.f4.params.toList Rows.fnExactReplyToSpec.vars false (#[.agg #[.int .i64 0, .bool false, .bool false, .int .i64 0, .string ByteArray.empty, .int .i64 0, .slice none 0 0, .slice none 0 0], .int .i64 0, .slice none 0 0, .slice none 0 0] : Array Value).toList 8 = some ([.agg [.lit (.int .i64 0), .lit (.bool false), .lit (.bool false), .lit (.int .i64 0), .lit (.string []), .lit (.int .i64 0), .nil, .nil], .lit (.int .i64 0), .nil, .nil], [], places) :=
  ⟨[], by kernel_rfl⟩
set_option maxRecDepth 100000 in
theorem lifted (os : Os) (started : os.Started) (H : Type) (enc : TypeId × Value → H) (F : Stop.Interp) :
    ReturnsInHanded {} Tryz.checked os 4 .any ((OpenSpec.ofChange Rows.fnExactReplyToSpec).preRow enc Tryz.prog Tryz.f4 Rows.fnExactReplyToRow.domain false Rows.fnExactReplyToRow.laid) (((OpenSpec.ofChange Rows.fnExactReplyToSpec).at F).post enc Tryz.prog Tryz.f4 false true false false) := by
  obtain ⟨places, hx⟩ := reads os enc
  refine returnsInHanded_of_row (C := Tryz.checked) (s := OpenSpec.ofChange Rows.fnExactReplyToSpec) own started (by kernel_rfl) Tryz.func4
    (witness_row_at (enc := enc) (C := Tryz.checked) false (laidWorld os) #[.agg #[.int .i64 0, .bool false, .bool false, .int .i64 0, .string ByteArray.empty, .int .i64 0, .slice none 0 0, .slice none 0 0], .int .i64 0, .slice none 0 0, .slice none 0 0] rfl (by kernel_rfl) (by kernel_rfl) (by kernel_rfl)
      (OpenSpec.preRow_of_cond 8 hx (by kernel_rfl) (fun k hk => by cases hk) (by kernel_rfl) (laid_met os))) ?_
  intro W base args ds gs before hval hW _ _ hsz hL _ _
  exact contract H enc W base args ds gs before hval hW hsz hL
theorem said : Rows.FnExactReplyToSaid :=
  OpenClaim.holds_of_cond 4 Tryz.f4 rfl rfl rfl rfl rfl rfl rfl ⟨rfl, rfl, rfl, rfl, rfl⟩ rfl rfl rfl rfl rfl (by kernel_rfl) Tryz.func4 (by kernel_rfl)
    (of_decide_eq_true (by kernel_rfl)) (by unfold Func.isWrapper; first | (rw [if_pos (by decide +kernel)]; kernel_rfl) | (rw [if_neg (by decide +kernel)]; exact ⟨rfl, rfl⟩))
    (fun os started H enc _ F => by rw [OpenClaim.pre_eq_preRow]; exact lifted os started H enc F)
theorem wants : Tryz.f4.params.toList.all (fun t => Tryz.prog.wantsStandIn t == false) = true := by kernel_rfl
theorem plain (f : FuncId) (fn : Func) (hf : Tryz.pinned.checked.prog.funcNamed "loop.example/g00300/laws.FnExactReplyTo" = some f) (hfn : Tryz.pinned.checked.prog.funcs[f]? = some fn) :
    true = Tryz.pinned.checked.prog.looks [] ∧ ∀ (j : Nat) t, fn.params[j]? = some t → Tryz.pinned.checked.prog.wantsStandIn t = false := by
  obtain rfl : f = 4 := Option.some.inj ((show Tryz.prog.funcNamed "loop.example/g00300/laws.FnExactReplyTo" = some 4 by kernel_rfl).symm.trans hf) |>.symm
  obtain rfl : fn = Tryz.f4 := (Option.some.inj (Tryz.func4.symm.trans hfn)).symm
  refine ⟨by kernel_rfl, fun j t ht => ?_⟩
  exact eq_of_beq (List.all_eq_true.1 wants t (Array.mem_toList_iff.2 (Array.mem_of_getElem? ht)))
theorem proved : Rows.FnExactReplyToCardSaid :=
  Claim7.holds_tied_plain_at .later [] _ _ _ _ said (fun _ h => by cases h) (by kernel_rfl) (fun _ h => by cases h) fnExactReplyTo_row_tie rfl ⟨rfl, rfl⟩ (by kernel_rfl) rfl plain (by kernel_rfl)
#print axioms proved
end Go.Proofs.YtkpkfallgjdkmaaGreatDoor.fnExactReplyTo
namespace Go.Proofs.YtkpkfallgjdkmaaGreatDoor
theorem fnExactReplyTo_holds : Rows.FnExactReplyToCardSaid := fnExactReplyTo.proved
end Go.Proofs.YtkpkfallgjdkmaaGreatDoor
