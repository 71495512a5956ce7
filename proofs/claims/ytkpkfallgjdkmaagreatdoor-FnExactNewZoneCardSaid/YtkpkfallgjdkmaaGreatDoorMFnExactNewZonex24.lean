/- FnExactNewZone: part 25 of 29 of my texts for this claim, joined; the theorem stands in the last. Conditions: none beyond the statement's. -/
import Derived.Test.YtkpkfallgjdkmaaGreatDoorMFnExactNewZonex23
import Derived.Test.YtkpkfallgjdkmaaGreatDoorMFnExactNewZonex21
namespace Go.Proofs.YtkpkfallgjdkmaaGreatDoor.P
open Go.RowKit Go.Proofs.YtkpkfallgjdkmaaGreatDoorW.PrintWords Go.Proofs.YtkpkfallgjdkmaaGreatDoorW.PrintLast Go.Proofs.YtkpkfallgjdkmaaGreatDoorW.PrintMore Go.Proofs.YtkpkfallgjdkmaaGreatDoor.Pure
set_option linter.unusedVariables false
set_option linter.unusedSimpArgs false
theorem box2 (w : World) (o1 o2 : Obj) : ((w.alloc o1).alloc o2).heap[w.heap.size + 1]? = some o2 := by
 show ((w.heap.push o1).push o2)[w.heap.size + 1]? = some o2
 rw [Array.getElem?_push, if_pos (by simp)]
theorem box1 (w : World) (o1 o2 : Obj) : ((w.alloc o1).alloc o2).heap[w.heap.size]? = some o1 := by
 show ((w.heap.push o1).push o2)[w.heap.size]? = some o1
 simp [Array.getElem?_push]
theorem cell1 (w : World) (v : Value) (t : TypeId) (o2 : Obj) : ((w.alloc (.cells #[v] t (0, 0))).alloc o2).cell? ⟨w.heap.size, 0, none⟩ = some v :=
 (blk_cell (box1 w _ o2) 0).trans rfl
theorem cell2 (w : World) (o1 : Obj) (v : Value) (t : TypeId) : ((w.alloc o1).alloc (.cells #[v] t (0, 0))).cell? ⟨w.heap.size + 1, 0, none⟩ = some v :=
 (blk_cell (box2 w o1 _) 0).trans rfl
/-- The sizes that are asked for. -/
def SizeOk (apex : ByteArray) (l : List (S72)) : Prop := apex.size ≤ 1048576 ∧ l.length ≤ 1048576 ∧ ∀ r ∈ l, r.f0.size ≤ 1048576
theorem at_loop (name : ByteArray) (kind : Int) (L : List (S72)) (hL : L.length ≤ 1048576) : ∀ (m i : Nat) (out : List (S72)), i + m = L.length → out.length ≤ i →
 Ev (fun k => impl_at.l0 k name kind out L (L.length : Int) (i : Int)) (out ++ atL (L.drop i) name kind)
 | 0, i, out, h, ho => by
  refine Ev.step (f := fun _ => some out) (fun k => ?_) ?_
  · show impl_at.l0 (k + 1) name kind out L (L.length : Int) (i : Int) = _
    rw [impl_at.l0, if_neg (by omega)]
  · rw [List.drop_of_length_le (by omega), show atL [] name kind = [] from rfl, List.append_nil]; exact Ev.now _
 | m + 1, i, out, h, ho => by
  have hi : i < L.length := by omega
  have hr : rd_T72 L (i : Int) = L[i] := by
   unfold rd_T72
   rw [Int.toNat_natCast, List.getD_eq_getElem?_getD, List.getElem?_eq_getElem hi, Option.getD_some]
  have hw : wrap64 ((i : Int) + 1) = ((i + 1 : Nat) : Int) := by unfold wrap64; omega
  have tl : ∀ a b : ByteArray, (a.toList = b.toList) ↔ a = b := fun a b => by rw [Lib.toList_data, Lib.toList_data]; exact (nm_eq a b).symm
  have es : ∀ k, impl_at.l0 (k + 1) name kind out L (L.length : Int) (i : Int) = (if L[i].f0 = name ∧ (kind = 0 ∨ L[i].f1 = kind) then (impl_at.l0 k name kind (out ++ [L[i]]) L (L.length : Int) ((i + 1 : Nat) : Int)) else (impl_at.l0 k name kind out L (L.length : Int) ((i + 1 : Nat) : Int))) := fun k => by
   rw [impl_at.l0, if_pos (by omega), if_pos (by omega), if_pos (by omega), hr, hw]
   by_cases c0 : L[i].f0 = name
   · rw [if_pos ((tl _ _).2 c0)]
     by_cases c1 : kind = 0
     · rw [if_pos c1, if_pos (by omega), if_pos ⟨c0, .inl c1⟩]
     · rw [if_neg c1]
       by_cases c2 : L[i].f1 = kind
       · rw [if_pos c2, if_pos (by omega), if_pos ⟨c0, .inr c2⟩]
       · rw [if_neg c2, if_neg (fun e => e.2.elim c1 c2)]
   · rw [if_neg (fun e => c0 ((tl _ _).1 e)), if_neg (fun e => c0 e.1)]
  rw [List.drop_eq_getElem_cons hi]
  refine Ev.step es ?_
  unfold atL
  rw [List.filter_cons]
  by_cases c : L[i].f0 = name ∧ (kind = 0 ∨ L[i].f1 = kind)
  · rw [if_pos (by simpa using c)]
    have ih := at_loop name kind L hL m (i + 1) (out ++ [L[i]]) (by omega) (by rw [List.length_append, List.length_singleton]; omega)
    unfold atL at ih
    rw [List.append_assoc] at ih
    exact Ev.congr (fun k => if_pos c) ih
  · rw [if_neg (by simpa using c)]
    have ih := at_loop name kind L hL m (i + 1) out (by omega) (by omega)
    unfold atL at ih
    exact Ev.congr (fun k => if_neg c) ih
theorem at_ev (name : ByteArray) (kind : Int) (L : List (S72)) (hL : L.length ≤ 1048576) : Ev (fun k => impl_at.f k L name kind) (atL L name kind) := by
 have := at_loop name kind L hL L.length 0 [] (by omega) (by simp)
 rw [List.drop_zero, List.nil_append] at this
 exact Ev.congr (fun k => rfl) this
/-- impl.at, whatever the number of rounds. -/
theorem at_calls (A0 : Option Addr) (c0 : Nat) (l0 : List (S72)) (a1 : ByteArray) (a2 : Int) (w : World) (hr0 : Kd.C k72 w A0 l0.length l0) (hc0 : l0.length ≤ c0) (hl : l0.length ≤ 1048576) :
 Calls Tryz.prog 62 #[.slice A0 l0.length c0, .string a1, .int .i64 a2] w fun e w' => ∃ (A : Option Addr) (c : Nat), e = .returned (.slice A (atL l0 a1 a2).length c) ∧ Kd.C k72 w' A (atL l0 a1 a2).length (atL l0 a1 a2) ∧ Below w.heap.size w w' := by
 obtain ⟨K, h⟩ := at_ev a1 a2 l0 hl
 refine (impl_at.calls K A0 c0 l0 a1 a2 _ w hr0 hc0 (h K (Nat.le_refl _))).mono ?_
 rintro e w' ⟨v, rfl, hR, hB⟩
 obtain ⟨A, c, rfl⟩ := Kd.R_slice hR
 exact ⟨A, c, rfl, (Kd.R_reads' hR).2.2, hB⟩
set_option maxHeartbeats 4000000 in
set_option maxRecDepth 100000 in
theorem breaks_calls (apex : ByteArray) (A0 : Option Addr) (c0 : Nat) (l0 : List (S72)) (r : S72) (rule : Int) (w : World) (hr0 : Kd.C k72 w A0 l0.length l0) (hc0 : l0.length ≤ c0) (hs : SizeOk apex l0) (hr : r.f0.size ≤ 1048576) :
 Calls Tryz.prog 61 #[.string apex, .slice A0 l0.length c0, encR r, .int .i64 rule] w fun e w' => e = .returned (.bool (breaksL apex l0 r rule)) ∧ Below w.heap.size w w' := by
 have HS := Aside0.mk hs
 have HR := Aside0.mk hr0
 clear hs hr0
 by_cases r1 : rule = 1
 · subst r1
   have hb := Aside0.mk (implBelow_eq r.f0 apex (by have := HS.out.1; omega) (by have := HS.out.1; omega))
   have key : breaksL apex l0 r 1 = !belowL r.f0.data.toList apex.data.toList := rfl
   rw [key]
   clear key
   unfold encR
   go_enter Tryz.func61, Tryz.ntmps61
   go_wp2_with (go_at_call 90; refine (impl_isBelow.calls _ _ _ _ hb.out).mono ?_; rintro e w' ⟨rfl, ⟨nd, rfl⟩⟩)
   go_ret
   exact ⟨rfl, pw_below_drewN (below_alloc (below_alloc (Below.refl _ _) _) _) _⟩
 · by_cases r2 : rule = 2
   · subst r2
     clear r1
     have key : breaksL apex l0 r 2 = ((r.f1 == 6) && !(r.f0.toList == apex.toList)) := by
      rw [bytes_eq]
      have e : ∀ a b : Int, (a == b) = decide (a = b) := fun a b => by rw [Bool.eq_iff_iff, beq_iff_eq, decide_eq_true_eq]
      rw [e]
      show (decide (r.f1 = 6) && decide (r.f0 ≠ apex)) = _
      simp
     rw [key]
     clear key
     unfold encR
     by_cases c1 : r.f1 = 6
     · have b1 : (r.f1 == 6) = true := beq_iff_eq.mpr c1
       clear c1
       rw [b1, Bool.true_and]
       by_cases c2 : r.f0.toList = apex.toList
       · have b2 : (r.f0.toList == apex.toList) = true := beq_iff_eq.mpr c2
         have b2' : (r.f0.toList != apex.toList) = false := bne_eq_false_iff_eq.mpr c2
         clear c2
         rw [b2]
         go_enter Tryz.func61, Tryz.ntmps61
         go_wp2
         go_ret
         exact ⟨rfl, below_alloc (below_alloc (Below.refl _ _) _) _⟩
       · have b2 : (r.f0.toList == apex.toList) = false := beq_eq_false_iff_ne.mpr c2
         have b2' : (r.f0.toList != apex.toList) = true := bne_iff_ne.mpr c2
         clear c2
         rw [b2]
         go_enter Tryz.func61, Tryz.ntmps61
         go_wp2
         go_ret
         exact ⟨rfl, below_alloc (below_alloc (Below.refl _ _) _) _⟩
     · have b1 : (r.f1 == 6) = false := beq_eq_false_iff_ne.mpr c1
       clear c1
       rw [b1, Bool.false_and]
       go_enter Tryz.func61, Tryz.ntmps61
       go_wp2
       go_ret
       exact ⟨rfl, below_alloc (below_alloc (Below.refl _ _) _) _⟩
   · by_cases r3 : rule = 3
     · subst r3
       clear r1 r2
       have key : breaksL apex l0 r 3 = (atL l0 r.f0 r.f1).any (clashB r) := rfl
       rw [key]
       clear key
       have e91 : ∀ args w, (callFunc 91 args).run Tryz.prog w = .ok (.enter 91 args) w := enters_of Tryz.func91 (by kernel_rfl) rfl
       have c1 := fun W hr => at_calls A0 c0 l0 r.f0 r.f1 W hr hc0 HS.out.2.1
       have c2 := fun (A : Option Addr) (c : Nat) (W : World) (hC : Kd.C k72 W A (atL l0 r.f0 r.f1).length (atL l0 r.f0 r.f1)) (B : Nat) (hrec : RecAt W B r) => contains_rec A c (atL l0 r.f0 r.f1) 91 #[.pointer (some ⟨B, 0, none⟩)] (clashB r) W hC e91 (fun j x _ _ W' hW => breaks1 r x B W' (hrec.below hW))
       unfold encR
       go_enter Tryz.func61, Tryz.ntmps61
       go_wp2_with (first | (go_at_call 62; refine (c1 _ (Kd.C_below HR.out (below_alloc (below_alloc (Below.refl _ _) _) _))).mono ?_; rintro e w1 ⟨A, c, rfl, hC, hb⟩) | (go_at_call 59; refine (c2 A c _ hC (w.heap.size + 1) (RecAt.below (RecAt.of_box (box2 _ _ _)) hb)).mono ?_; rintro e w2 ⟨rfl, hb2⟩))
       go_ret
       exact ⟨rfl, below_step (below_step (below_alloc (below_alloc (Below.refl _ _) _) _) hb) hb2⟩
     · by_cases r4 : rule = 4
       · subst r4
         clear r1 r2 r3
         have key : breaksL apex l0 r 4 = ((r.f1 == 5) && decide (1 < ((atL l0 r.f0 0).length : Int))) := by
          have e : ∀ a b : Int, (a == b) = decide (a = b) := fun a b => by rw [Bool.eq_iff_iff, beq_iff_eq, decide_eq_true_eq]
          rw [e]
          show (decide (r.f1 = 5) && decide (1 < (atL l0 r.f0 0).length)) = _
          congr 1
          rw [decide_eq_decide]
          omega
         rw [key]
         clear key
         have c1 := fun W hr => at_calls A0 c0 l0 r.f0 0 W hr hc0 HS.out.2.1
         unfold encR
         by_cases c5 : r.f1 = 5
         · have b1 : (r.f1 == 5) = true := beq_iff_eq.mpr c5
           clear c5
           rw [b1, Bool.true_and]
           go_enter Tryz.func61, Tryz.ntmps61
           go_wp2_with (go_at_call 62; refine (c1 _ (Kd.C_below HR.out (below_alloc (below_alloc (Below.refl _ _) _) _))).mono ?_; rintro e w1 ⟨A, c, rfl, hC, hb⟩)
           go_ret
           exact ⟨rfl, below_step (below_alloc (below_alloc (Below.refl _ _) _) _) hb⟩
         · have b1 : (r.f1 == 5) = false := beq_eq_false_iff_ne.mpr c5
           clear c5
           rw [b1, Bool.false_and]
           go_enter Tryz.func61, Tryz.ntmps61
           go_wp2
           go_ret
           exact ⟨rfl, (below_alloc (below_alloc (Below.refl _ _) _) _)⟩
       · by_cases r5 : rule = 5
         · subst r5
           clear r1 r2 r3 r4
           have key : breaksL apex l0 r 5 = ((r.f1 == 5) && (r.f0.toList == apex.toList)) := by
            rw [bytes_eq]
            have e : ∀ a b : Int, (a == b) = decide (a = b) := fun a b => by rw [Bool.eq_iff_iff, beq_iff_eq, decide_eq_true_eq]
            rw [e]
            rfl
           rw [key]
           clear key
           unfold encR
           by_cases c5 : r.f1 = 5
           · have b1 : (r.f1 == 5) = true := beq_iff_eq.mpr c5
             clear c5
             rw [b1, Bool.true_and]
             go_enter Tryz.func61, Tryz.ntmps61
             go_wp2
             go_ret
             exact ⟨rfl, (below_alloc (below_alloc (Below.refl _ _) _) _)⟩
           · have b1 : (r.f1 == 5) = false := beq_eq_false_iff_ne.mpr c5
             clear c5
             rw [b1, Bool.false_and]
             go_enter Tryz.func61, Tryz.ntmps61
             go_wp2
             go_ret
             exact ⟨rfl, (below_alloc (below_alloc (Below.refl _ _) _) _)⟩
         · have key : breaksL apex l0 r rule = l0.any (cutB apex r) := by
            unfold breaksL
            rw [if_neg r1, if_neg r2, if_neg r3, if_neg r4, if_neg r5]
            rfl
           rw [key]
           clear key
           have b1 : (rule == 1) = false := beq_eq_false_iff_ne.mpr r1
           have b2 : (rule == 2) = false := beq_eq_false_iff_ne.mpr r2
           have b3 : (rule == 3) = false := beq_eq_false_iff_ne.mpr r3
           have b4 : (rule == 4) = false := beq_eq_false_iff_ne.mpr r4
           have b5 : (rule == 5) = false := beq_eq_false_iff_ne.mpr r5
           clear r1 r2 r3 r4 r5
           have e92 : ∀ args w, (callFunc 92 args).run Tryz.prog w = .ok (.enter 92 args) w := enters_of Tryz.func92 (by kernel_rfl) rfl
           have c2 := fun (W : World) (hC : Kd.C k72 W A0 l0.length l0) (BA B : Nat) (ha : W.cell? ⟨BA, 0, none⟩ = some (.string apex)) (hrec : RecAt W B r) => contains_rec A0 c0 l0 92 #[.pointer (some ⟨BA, 0, none⟩), .pointer (some ⟨B, 0, none⟩)] (cutB apex r) W hC e92 (fun j x hx _ W' hW => breaks2 apex r x BA B W' ⟨hr, HS.out.2.2 _ (List.mem_of_getElem? hx)⟩ ((hW.cell (World.block_lt_of_cell? _ _ ha)).trans ha) (hrec.below hW))
           unfold encR
           go_enter Tryz.func61, Tryz.ntmps61
           go_wp2_with (go_at_call 59; refine (c2 _ (Kd.C_below HR.out (below_alloc (below_alloc (Below.refl _ _) _) _)) w.heap.size (w.heap.size + 1) (cell1 _ _ _ _) (RecAt.of_box (box2 _ _ _))).mono ?_; rintro e w2 ⟨rfl, hb2⟩)
           go_ret
           exact ⟨rfl, below_step (below_alloc (below_alloc (Below.refl _ _) _) _) hb2⟩
instance (apex : ByteArray) (l : List (S72)) : Decidable (SizeOk apex l) := by unfold SizeOk; infer_instance
def impl_RuleOf.f (k : Nat) (apex : ByteArray) (l : List (S72)) : Option Int := if SizeOk apex l then (impl_isWhole.f k apex l).bind fun t => (if t = true then some (firstI apex l 6 1) else some 9) else none
set_option maxHeartbeats 4000000 in
set_option maxRecDepth 100000 in
theorem ruleOf1 (apex : ByteArray) (A0 : Option Addr) (c0 : Nat) (l0 : List (S72)) (r : S72) (rule : Int) (BA BL BR : Nat) (W : World) (hr0 : Kd.C k72 W A0 l0.length l0) (hc0 : l0.length ≤ c0) (hs : SizeOk apex l0) (hr : r.f0.size ≤ 1048576)
 (ha : W.cell? ⟨BA, 0, none⟩ = some (.string apex)) (hl : W.cell? ⟨BL, 0, none⟩ = some (.slice A0 l0.length c0)) (hru : W.cell? ⟨BR, 0, none⟩ = some (.int .i64 rule)) :
 Calls Tryz.prog 60 #[encR r, .pointer (some ⟨BA, 0, none⟩), .pointer (some ⟨BL, 0, none⟩), .pointer (some ⟨BR, 0, none⟩)] W fun e W' => e = .returned (.bool (breaksL apex l0 r rule)) ∧ Below W.heap.size W W' := by
 have cc := fun o => breaks_calls apex A0 c0 l0 r rule (W.alloc o) (Kd.C_below hr0 (below_alloc (Below.refl _ _) o)) hc0 hs hr
 have la := fun o => (below_alloc (Below.refl W.heap.size W) o).cell (World.block_lt_of_cell? _ _ ha) |>.trans ha
 have ll := fun o => (below_alloc (Below.refl W.heap.size W) o).cell (World.block_lt_of_cell? _ _ hl) |>.trans hl
 have lr := fun o => (below_alloc (Below.refl W.heap.size W) o).cell (World.block_lt_of_cell? _ _ hru) |>.trans hru
 unfold encR at cc ⊢
 go_enter Tryz.func60, Tryz.ntmps60
 go_wp2_with (go_at_call 61; refine (cc _).mono ?_; rintro e w' ⟨rfl, hb⟩)
 go_ret
 exact ⟨rfl, below_step (below_alloc (Below.refl _ _) _) hb⟩
set_option maxHeartbeats 4000000 in
set_option maxRecDepth 100000 in
theorem impl_RuleOf.calls (k : Nat) (a0 : ByteArray) (A1 : Option Addr) (c1 : Nat) (l1 : List (S72)) (r : Int) (w : World) (hr1 : Kd.C k72 w A1 l1.length l1) (hc1 : l1.length ≤ c1) (h : impl_RuleOf.f k a0 l1 = some r) (hv_ : Vars w := by first | assumption | (refine Vars.below (Aside0.out (by assumption)) ?_; repeat (first | (with_reducible first | exact Below.refl _ _ | exact Aside0.out (by assumption) | apply below_alloc | apply pw_below_drewN | apply below_drew1 | refine below_set ?_ (Aside0.out (by assumption))) | exact Aside0.out (by assumption)))) :
 Calls Tryz.prog 31 #[.string a0, .slice A1 l1.length c1] w fun e w' => e = .returned (.int .i64 r) ∧ Below w.heap.size w w' := by
 unfold impl_RuleOf.f at h
 by_cases hs : SizeOk a0 l1
 · rw [if_pos hs] at h
   obtain ⟨t, ht, h⟩ := Option.bind_eq_some_iff.mp h
   have HC := Aside0.mk hr1
   have HS := Aside0.mk hs
   have HT := Aside0.mk ht
   have HV := Aside0.mk hv_
   have cw := fun W hr hv => impl_isWhole.calls k a0 A1 c1 l1 t W hr hc1 HT.out hv
   clear hr1 hs ht hv_
   cases t with
   | false =>
    rw [if_neg (by decide)] at h
    obtain rfl := Option.some.inj h
    clear h
    go_enter Tryz.func31, Tryz.ntmps31
    go_wp2_with (go_at_call 58; refine (cw _ (Kd.C_below HC.out (below_alloc (below_alloc (Below.refl _ _) _) _)) (Vars.below HV.out (below_alloc (below_alloc (Below.refl _ _) _) _))).mono ?_; rintro e w1 ⟨rfl, hb⟩)
    go_ret
    exact ⟨rfl, below_step (below_alloc (below_alloc (Below.refl _ _) _) _) hb⟩
   | true =>
    rw [if_pos rfl] at h
    have H := Aside0.mk (Option.some.inj h)
    clear h
    go_enter Tryz.func31, Tryz.ntmps31
    go_wp2_with (go_at_call 58; refine (cw _ (Kd.C_below HC.out (below_alloc (below_alloc (Below.refl _ _) _) _)) (Vars.below HV.out (below_alloc (below_alloc (Below.refl _ _) _) _))).mono ?_; rintro e w1 ⟨rfl, hb⟩)
    have HB := Aside0.mk (below_step (below_alloc (below_alloc (Below.refl _ _) _) _) hb)
    have h2 := Aside0.mk ((hb.cell (World.block_lt_of_cell? _ _ (cell1 w (.string a0) 9 (.cells #[.slice A1 l1.length c1] 22 (0, 0))))).trans (cell1 w (.string a0) 9 (.cells #[.slice A1 l1.length c1] 22 (0, 0))))
    have h3 := Aside0.mk ((hb.cell (World.block_lt_of_cell? _ _ (cell2 w (.cells #[.string a0] 9 (0, 0)) (.slice A1 l1.length c1) 22))).trans (cell2 w (.cells #[.string a0] 9 (0, 0)) (.slice A1 l1.length c1) 22))
    clear hb
    have e60 : ∀ args w, (callFunc 60 args).run Tryz.prog w = .ok (.enter 60 args) w := enters_of Tryz.func60 (by kernel_rfl) rfl
    go_loopg [5] 6 (fun gg s5 wr => ∃ (kk B : Nat) (v : Int), kk ≤ 6 ∧ 6 - kk ≤ gg ∧ s5 = .pointer (some ⟨B, 0, none⟩) ∧ wr.cell? ⟨B, 0, none⟩ = some (.int .i64 v) ∧ Aside0 (v = (kk : Int) + 1) ∧ Aside0 (wr.cell? ⟨w.heap.size, 0, none⟩ = some (.string a0)) ∧ Aside0 (wr.cell? ⟨w.heap.size + 1, 0, none⟩ = some (.slice A1 l1.length c1)) ∧ Aside0 (Below w.heap.size w wr) ∧ Aside0 (firstI a0 l1 (6 - kk) v = r))
    case atStart => exact ⟨0, w1.heap.size, 1, by omega, by omega, rfl, by simp, ⟨rfl⟩, ⟨((below_alloc (Below.refl w1.heap.size w1) _).cell (World.block_lt_of_cell? _ _ h2.out)).trans h2.out⟩, ⟨((below_alloc (Below.refl w1.heap.size w1) _).cell (World.block_lt_of_cell? _ _ h3.out)).trans h3.out⟩, ⟨below_step HB.out (below_alloc (Below.refl _ _) _)⟩, H⟩
    case round =>
     clear h2 h3 HB H
     obtain ⟨kk, B, v, hkk, hg, rfl, l5, HVV, L2, L3, HB, H⟩ := hrel
     have l2 := L2.out
     have l3 := L3.out
     by_cases hlt : kk < 6
     · have hle : decide (v ≤ 6) = true := decide_eq_true (by have := HVV.out; omega)
       have cc := contains_rec A1 c1 l1 60 #[.pointer (some ⟨w.heap.size, 0, none⟩), .pointer (some ⟨w.heap.size + 1, 0, none⟩), .pointer (some ⟨B, 0, none⟩)] (fun r => breaksL a0 l1 r v) wr (Kd.C_below HC.out HB.out) e60 (fun j x hx _ W' hW => ruleOf1 a0 A1 c1 l1 x v w.heap.size (w.heap.size + 1) B W' (Kd.C_below (Kd.C_below HC.out HB.out) hW) hc1 HS.out (HS.out.2.2 _ (List.mem_of_getElem? hx)) ((hW.cell (World.block_lt_of_cell? _ _ L2.out)).trans L2.out) ((hW.cell (World.block_lt_of_cell? _ _ L3.out)).trans L3.out) ((hW.cell (World.block_lt_of_cell? _ _ l5)).trans l5))
       have e6 : firstI a0 l1 (6 - kk) v = if ruleI a0 l1 v = true then v else firstI a0 l1 (6 - (kk + 1)) (v + 1) := by
        rw [show 6 - kk = (6 - (kk + 1)) + 1 by omega, firstI]
       have H2 := Aside0.mk (e6.symm.trans H.out)
       clear e6 H
       cases hq : l1.any (fun r => breaksL a0 l1 r v) with
       | true =>
        rw [hq] at cc
        have hr : r = v := by
         rw [← H2.out]
         unfold ruleI
         rw [hq, Bool.true_or, if_pos rfl]
        go_wp2_with (go_at_call 59; refine cc.mono ?_; rintro e w2 ⟨rfl, hb⟩; have q5 := (hb.cell (World.block_lt_of_cell? _ _ l5)).trans l5)
        go_ret
        exact ⟨by rw [hr]; rfl, below_step HB.out hb⟩
       | false =>
        rw [hq] at cc
        have hw : wrap64 (v + 1) = v + 1 := by have := HVV.out; unfold wrap64; omega
        by_cases h2 : v = 2
        · have b2 : (v == 2) = true := beq_iff_eq.mpr h2
          have ca := fun W hr => at_calls A1 c1 l1 a0 6 W hr hc1 HS.out.2.1
          by_cases h1 : (atL l1 a0 6).length = 1
          · have b1 : (((atL l1 a0 6).length : Int) == 1) = true := beq_iff_eq.mpr (by omega)
            have b1' : (((atL l1 a0 6).length : Int) != 1) = false := bne_eq_false_iff_eq.mpr (by omega)
            have H3 : Aside0 (firstI a0 l1 (6 - (kk + 1)) (v + 1) = r) := ⟨by
             rw [← H2.out]
             unfold ruleI
             rw [hq, decide_eq_true h2, decide_eq_false (fun e => e h1), Bool.and_false, Bool.or_false, if_neg (by decide)]⟩
            clear H2 h2 h1
            go_wp2_with (first | (go_at_call 59; refine cc.mono ?_; rintro e w2 ⟨rfl, hb⟩; have q5 := (hb.cell (World.block_lt_of_cell? _ _ l5)).trans l5; have q2 := (hb.cell (World.block_lt_of_cell? _ _ L2.out)).trans L2.out; have q3 := (hb.cell (World.block_lt_of_cell? _ _ L3.out)).trans L3.out) | (go_at_call 62; refine (ca _ (Kd.C_below HC.out (below_step HB.out hb))).mono ?_; rintro e w3 ⟨A, c, rfl, hC, hb3⟩; have p5 := (hb3.cell (World.block_lt_of_cell? _ _ q5)).trans q5; have p2 := Aside0.mk ((hb3.cell (World.block_lt_of_cell? _ _ q2)).trans q2); have p3 := Aside0.mk ((hb3.cell (World.block_lt_of_cell? _ _ q3)).trans q3)))
            go_roundg (6 - (kk + 1))
            case measure => omega
            case rel => exact ⟨kk + 1, w3.heap.size, v + 1, by omega, by omega, rfl, by simp, ⟨by have := HVV.out; omega⟩, ⟨((below_alloc (Below.refl w3.heap.size w3) _).cell (World.block_lt_of_cell? _ _ p2.out)).trans p2.out⟩, ⟨((below_alloc (Below.refl w3.heap.size w3) _).cell (World.block_lt_of_cell? _ _ p3.out)).trans p3.out⟩, ⟨below_step (below_step (below_step HB.out hb) hb3) (below_alloc (Below.refl _ _) _)⟩, H3⟩
          · have b1 : (((atL l1 a0 6).length : Int) == 1) = false := beq_eq_false_iff_ne.mpr (by omega)
            have b1' : (((atL l1 a0 6).length : Int) != 1) = true := bne_iff_ne.mpr (by omega)
            have hr : r = v := by
             rw [← H2.out]
             unfold ruleI
             rw [hq, decide_eq_true h2, decide_eq_true h1, Bool.and_true, Bool.false_or, if_pos rfl]
            clear H2 h2 h1
            go_wp2_with (first | (go_at_call 59; refine cc.mono ?_; rintro e w2 ⟨rfl, hb⟩; have q5 := (hb.cell (World.block_lt_of_cell? _ _ l5)).trans l5; have q2 := (hb.cell (World.block_lt_of_cell? _ _ L2.out)).trans L2.out; have q3 := (hb.cell (World.block_lt_of_cell? _ _ L3.out)).trans L3.out) | (go_at_call 62; refine (ca _ (Kd.C_below HC.out (below_step HB.out hb))).mono ?_; rintro e w3 ⟨A, c, rfl, hC, hb3⟩; have p5 := (hb3.cell (World.block_lt_of_cell? _ _ q5)).trans q5; have p2 := Aside0.mk ((hb3.cell (World.block_lt_of_cell? _ _ q2)).trans q2); have p3 := Aside0.mk ((hb3.cell (World.block_lt_of_cell? _ _ q3)).trans q3)))
            go_ret
            exact ⟨by rw [hr]; rfl, below_step (below_step HB.out hb) hb3⟩
        · have b2 : (v == 2) = false := beq_eq_false_iff_ne.mpr h2
          have H3 : Aside0 (firstI a0 l1 (6 - (kk + 1)) (v + 1) = r) := ⟨by
           rw [← H2.out]
           unfold ruleI
           rw [hq, decide_eq_false h2, Bool.false_and, Bool.or_false, if_neg (by decide)]⟩
          clear H2 h2
          go_wp2_with (go_at_call 59; refine cc.mono ?_; rintro e w2 ⟨rfl, hb⟩; have q5 := (hb.cell (World.block_lt_of_cell? _ _ l5)).trans l5; have q2 := (hb.cell (World.block_lt_of_cell? _ _ L2.out)).trans L2.out; have q3 := (hb.cell (World.block_lt_of_cell? _ _ L3.out)).trans L3.out)
          have p2 := Aside0.mk q2
          have p3 := Aside0.mk q3
          go_roundg (6 - (kk + 1))
          case measure => omega
          case rel => exact ⟨kk + 1, w2.heap.size, v + 1, by omega, by omega, rfl, by simp, ⟨by have := HVV.out; omega⟩, ⟨((below_alloc (Below.refl w2.heap.size w2) _).cell (World.block_lt_of_cell? _ _ p2.out)).trans p2.out⟩, ⟨((below_alloc (Below.refl w2.heap.size w2) _).cell (World.block_lt_of_cell? _ _ p3.out)).trans p3.out⟩, ⟨below_step (below_step HB.out hb) (below_alloc (Below.refl _ _) _)⟩, H3⟩
     · have hle : decide (v ≤ 6) = false := decide_eq_false (by have := HVV.out; omega)
       have hr : r = 0 := by rw [← H.out, show 6 - kk = 0 by omega, firstI]
       go_wp2
       go_ret
       exact ⟨by rw [hr]; rfl, HB.out⟩
 · rw [if_neg hs] at h
   cases h
end Go.Proofs.YtkpkfallgjdkmaaGreatDoor.P
