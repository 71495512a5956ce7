/- FnExactSetsOf: part 28 of 28 of my texts for this claim, joined; the theorem stands in the last. Conditions: none beyond the statement's. -/
import Derived.Test.YtiegkjimpclmaaaGreatDoorMFnExactSetsOfx26
import Derived.Test.YtiegkjimpclmaaaGreatDoorCards
import Derived.Test.YtiegkjimpclmaaaGreatDoorTie
import Derived.Deep.DeepHandedRow
import Derived.Stop.LaidErr
namespace Go.Proofs.YtiegkjimpclmaaaGreatDoor.P
open Go.RowKit Go.Proofs.YtiegkjimpclmaaaGreatDoorW.PrintWords Go.Proofs.YtiegkjimpclmaaaGreatDoorW.PrintLast Go.Proofs.YtiegkjimpclmaaaGreatDoorW.PrintMore
set_option linter.unusedVariables false
set_option linter.unusedSimpArgs false
abbrev LRec := S91
abbrev kLRec := k91
def laws_FnExactSetsOf.f (k : Nat) (l : List LRec) : Prop := ∃ t, laws_szRecordS.f k l 1048576 = some t ∧ (t < 0 ∨ (0 ≤ t ∧ ∃ x r b k1 x2 m r2, laws_toRecordS.f k l = some x ∧ spec_SetsOf.f k x = some (r, b) ∧ impl_SetsOf.f k x = some (r, b) ∧ laws_eqSetS.f k r r = some true ∧ laws_eqRecordS.f k x x = some true ∧
  laws_markRecordS.f k x 1 = some (k1, x2) ∧ 0 ≤ k1 ∧ laws_markSetS.f k r 1 = some (m, r2) ∧ 0 ≤ m ∧ laws_heldSetS.f k r2 1 = some m))
structure Tok (n : Nat) : Prop where
theorem held_at {A : Option Addr} {n n' c : Nat} {a : Int} {W : World} {R : Ending → World → Prop} {f : FuncId} (h : Calls Tryz.prog f #[.slice A n' c, .int .i64 a] W R) (e : n = n') : Calls Tryz.prog f #[.slice A n c, .int .i64 a] W R := e ▸ h
theorem c_at {α : Type} {d : Kd α} {A : Option Addr} {n n' : Nat} {W : World} {xs : List α} (h : Kd.C d W A n' xs) (e : n = n') : Kd.C d W A n' xs := h
set_option maxHeartbeats 8000000 in
set_option maxRecDepth 100000 in
theorem laws_FnExactSetsOf.calls (k : Nat) (A0 : Option Addr) (c0 : Nat) (l0 : List LRec) (r_ : Bool) (w : World) (hr0 : Kd.C kLRec w A0 l0.length l0) (hc0 : l0.length ≤ c0) (h : laws_FnExactSetsOf.f k l0) (hv_ : Vars w := by first | assumption) (hr_ : r_ = true := by rfl) :
    Calls Tryz.prog 5 #[.slice A0 l0.length c0] w fun e w' => e = .returned (.bool r_) ∧ Below w.heap.size w w' := by
  subst hr_
  obtain ⟨t, hsz, h⟩ := h
  have HC := Aside0.mk hr0
  have HL := Aside0.mk hc0
  have HZ := Aside0.mk hsz
  have HV := Aside0.mk hv_
  clear hr0 hc0 hsz hv_
  rcases h with h | ⟨h, x, r, b, k1, x2, m, r2, e1, e2, e3, e4, e5, e6, hk1, e7, hm, e8⟩
  · have hd : decide (t < 0) = true := decide_eq_true h
    clear h
    go_enter Tryz.func5, Tryz.ntmps5
    go_wp2_with (first | (go_at_call 21; refine (laws_szRecordS.calls k A0 c0 l0 1048576 t _ HC.out HL.out HZ.out).mono ?_; rintro e w1 ⟨rfl, hb⟩))
    go_ret
    exact ⟨rfl, hb⟩
  · have hd : decide (t < 0) = false := decide_eq_false (by omega)
    have hd1 : decide (k1 < 0) = false := decide_eq_false (by omega)
    have hd2 : decide (m < 0) = false := decide_eq_false (by omega)
    have E1 := Aside0.mk e1
    have E2 := Aside0.mk e2
    have E3 := Aside0.mk e3
    have E4 := Aside0.mk e4
    have E5 := Aside0.mk e5
    have E6 := Aside0.mk e6
    have E7 := Aside0.mk e7
    have E8 := Aside0.mk e8
    clear e1 e2 e3 e4 e5 e6 e7 e8 hk1 hm h
    have T1 : Tok 1 := ⟨⟩
    cases b <;> (
      go_enter Tryz.func5, Tryz.ntmps5
      go_wp2_with (first
        | (clear T1; go_at_call 21; refine (laws_szRecordS.calls k A0 c0 l0 1048576 t _ HC.out HL.out HZ.out).mono ?_; rintro e w1 ⟨rfl, hb⟩
           have HB1 := Aside0.mk hb
           have T2 : Tok 2 := ⟨⟩
           clear hb)
        | (clear T2; go_at_call 23; refine (laws_toRecordS.calls k A0 c0 l0 x _ (Kd.C_below HC.out HB1.out) HL.out E1.out).mono ?_; rintro e w2 ⟨v2, rfl, hs, hb⟩
           have HB2 := Aside0.mk (below_step HB1.out hb)
           obtain ⟨A2, c2, rfl, hc2, hC2⟩ := Kd.R_reads hs
           have HL2 := Aside0.mk hc2
           have HC2 := Aside0.mk hC2
           have T3 : Tok 3 := ⟨⟩
           clear hb HB1 hs hc2 hC2)
        | (clear T3; go_at_call 22; refine (spec_SetsOf.calls k A2 c2 x r _ _ HC2.out HL2.out E2.out).mono ?_; rintro e w3 ⟨v3, rfl, hs, hb⟩
           have HB3 := Aside0.mk (below_step HB2.out hb)
           obtain ⟨A3, c3, rfl⟩ := Kd.S_slice hs
           have HW := Aside0.mk hs
           have T4 : Tok 4 := ⟨⟩
           clear hb HB2 hs HC2 HL2)
        | (clear T4; go_at_call 23; refine (laws_toRecordS.calls k A0 c0 l0 x _ (Kd.C_below HC.out HB3.out) HL.out E1.out).mono ?_; rintro e w4 ⟨v4, rfl, hs, hb⟩
           have HW4 := Aside0.mk (Kd.S_old HW.out hb)
           have HB4 := Aside0.mk (below_step HB3.out hb)
           have HA4 := Aside0.mk hb
           obtain ⟨A4, c4, rfl⟩ := Kd.R_slice hs
           have HX4 := Aside0.mk (Kd.R_bound hs)
           have T5 : Tok 5 := ⟨⟩
           have HS34 := Aside0.mk hb.size
           clear hb hs HW)
        | (clear T5; go_at_call 24; refine (impl_SetsOf.calls k A4 c4 x r _ _ (Kd.R_reads' HX4.out).2.2 (Kd.R_reads' HX4.out).2.1 E3.out (Vars.below HV.out HB4.out)).mono ?_; rintro e w5 ⟨v5, rfl, hs, hb⟩
           have HW5 := Aside0.mk (Kd.S_below HW4.out hb)
           have HX5 := Aside0.mk (Kd.R_below HX4.out hb)
           have HB5 := Aside0.mk (below_step HB4.out hb)
           have HA5 := Aside0.mk (below_step HA4.out hb)
           have HS5 := Aside0.mk hb.size
           obtain ⟨A5, c5, rfl⟩ := Kd.S_slice hs
           have HG5 := Aside0.mk (Kd.S_bound hs)
           have T6 : Tok 6 := ⟨⟩
           clear hb HB4 HA4 hs HW4 HX4)
        | (clear T6; go_at_call 17; refine (laws_eqSetS.calls k A5 c5 r A3 c3 r true _ (Kd.S_reads' HG5.out).2.2 (Kd.S_reads' HG5.out).2.1 (Kd.S_reads' HW5.out).2.2 (Kd.S_reads' HW5.out).2.1 E4.out).mono ?_; rintro e w6 ⟨rfl, hb⟩
           have HW6 := Aside0.mk (Kd.S_below HW5.out hb)
           have HX6 := Aside0.mk (Kd.R_below HX5.out hb)
           have HG6 := Aside0.mk (Kd.S_below HG5.out hb)
           have HB6 := Aside0.mk (below_step HB5.out hb)
           have HA6 := Aside0.mk (below_step HA5.out hb)
           have T7 : Tok 7 := ⟨⟩
           clear hb HW5 HX5 HG5 HB5 HA5)
        | (clear T7; go_at_call 23; refine (laws_toRecordS.calls k A0 c0 l0 x _ (Kd.C_below HC.out HB6.out) HL.out E1.out).mono ?_; rintro e w7 ⟨v7, rfl, hs, hb⟩
           have HW7 := Aside0.mk (Kd.S_below HW6.out hb)
           have HX7 := Aside0.mk (Kd.R_below HX6.out hb)
           have HG7 := Aside0.mk (Kd.S_below HG6.out hb)
           have HB7 := Aside0.mk (below_step HB6.out hb)
           have HA7 := Aside0.mk (below_step HA6.out hb)
           obtain ⟨A7, c7, rfl, hc7, hC7⟩ := Kd.R_reads hs
           have HL7 := Aside0.mk hc7
           have HC7 := Aside0.mk hC7
           have T8 : Tok 8 := ⟨⟩
           clear hb hs hc7 hC7 HW6 HX6 HG6 HB6 HA6)
        | (clear T8; go_at_call 16; refine (laws_eqRecordS.calls k A4 c4 x A7 c7 x true _ (Kd.R_reads' HX7.out).2.2 (Kd.R_reads' HX7.out).2.1 HC7.out HL7.out E5.out).mono ?_; rintro e w8 ⟨rfl, hb⟩
           have HW8 := Aside0.mk (Kd.S_below HW7.out hb)
           have HX8 := Aside0.mk (Kd.R_below HX7.out hb)
           have HG8 := Aside0.mk (Kd.S_below HG7.out hb)
           have HB8 := Aside0.mk (below_step HB7.out hb)
           have HA8 := Aside0.mk (below_step HA7.out hb)
           have T9 : Tok 9 := ⟨⟩
           clear hb HW7 HX7 HG7 HB7 HA7 HC7 HL7)
        | (clear T9; go_at_call 19; refine (laws_markRecordS.calls k _ _ x 1 k1 x2 w3 _ HA8.out HX8.out E6.out).mono ?_; rintro e w9 ⟨rfl, _, hb, hk⟩
           have HW9 := Aside0.mk (Kd.S_kept HW8.out hk (fun q h1 h2 => Nat.lt_irrefl _ (Nat.lt_of_lt_of_le h1.2 h2.2.1)))
           have HG9 := Aside0.mk (Kd.S_kept HG8.out hk (fun q h1 h2 => Nat.lt_irrefl _ (Nat.lt_of_lt_of_le h2.2.2.1 h1.2.1)))
           have HB9 := Aside0.mk (below_step HB3.out hb)
           have HA9 := Aside0.mk hb
           have T10 : Tok 10 := ⟨⟩
           clear hk hb HW8 HX8 HG8 HA8 HB8)
        | (clear T10; go_at_call 17; refine (laws_eqSetS.calls k A5 c5 r A3 c3 r true _ (Kd.S_reads' HG9.out).2.2 (Kd.S_reads' HG9.out).2.1 (Kd.S_reads' HW9.out).2.2 (Kd.S_reads' HW9.out).2.1 E4.out).mono ?_; rintro e w10 ⟨rfl, hb⟩
           have HW10 := Aside0.mk (Kd.S_below HW9.out hb)
           have HG10 := Aside0.mk (Kd.S_below HG9.out hb)
           have HA10 := Aside0.mk (below_step HA9.out hb)
           have T11 : Tok 11 := ⟨⟩
           clear hb HW9 HG9 HB9 HA9)
        | (clear T11; go_at_call 18; refine (laws_markSetS.calls k _ _ r 1 m r2 w3 _ HA10.out (Kd.S_lower HG10.out HS34.out) E7.out).mono ?_; rintro e w11 ⟨rfl, hg, hb, hk⟩
           have HW11 := Aside0.mk (Kd.S_kept HW10.out hk (fun q h1 h2 => Nat.lt_irrefl _ (Nat.lt_of_lt_of_le h1.2 (Nat.le_trans HS34.out h2.2.1))))
           have HG11 := Aside0.mk hg
           have EL := Aside0.mk (Kd.S_reads' hg).1
           have HB11 := Aside0.mk (below_step HB3.out hb)
           have T12 : Tok 12 := ⟨⟩
           clear hg hk hb HW10 HG10 HA10 HB3)
        | (clear T12; go_at_call 25; refine (held_at (laws_heldSetS.calls k A5 c5 r2 1 m _ (c_at (Kd.S_reads' HG11.out).2.2 EL.out) (EL.out ▸ (Kd.S_reads' HG11.out).2.1) E8.out) EL.out).mono ?_; rintro e w12 ⟨rfl, hb⟩
           have HW12 := Aside0.mk (Kd.S_below HW11.out hb)
           have HG12 := Aside0.mk (Kd.S_below HG11.out hb)
           have HB12 := Aside0.mk (below_step HB11.out hb)
           have T13 : Tok 13 := ⟨⟩
           clear hb HW11 HG11 HB11)
        | (clear T13; go_at_call 23; refine (laws_toRecordS.calls k A0 c0 l0 x _ (Kd.C_below HC.out HB12.out) HL.out E1.out).mono ?_; rintro e w13 ⟨v13, rfl, hs, hb⟩
           have HW13 := Aside0.mk (Kd.S_below HW12.out hb)
           have HG13 := Aside0.mk (Kd.S_below HG12.out hb)
           have HB13 := Aside0.mk (below_step HB12.out hb)
           obtain ⟨A13, c13, rfl, hc13, hC13⟩ := Kd.R_reads hs
           have HL13 := Aside0.mk hc13
           have HC13 := Aside0.mk hC13
           have T14 : Tok 14 := ⟨⟩
           clear hb hs hc13 hC13 HW12 HG12 HB12)
        | (clear T14; go_at_call 24; refine (impl_SetsOf.calls k A13 c13 x r _ _ HC13.out HL13.out E3.out (Vars.below HV.out HB13.out)).mono ?_; rintro e w14 ⟨v14, rfl, hs, hb⟩
           have HW14 := Aside0.mk (Kd.S_below HW13.out hb)
           have HG14 := Aside0.mk (Kd.S_below HG13.out hb)
           have HB14 := Aside0.mk (below_step HB13.out hb)
           obtain ⟨A14, c14, rfl, hc14, hC14⟩ := Kd.S_reads hs
           have HL14 := Aside0.mk hc14
           have HC14 := Aside0.mk hC14
           have T15 : Tok 15 := ⟨⟩
           clear hb hs hc14 hC14 HW13 HG13 HB13 HC13 HL13)
        | (clear T15; go_at_call 17; refine (laws_eqSetS.calls k A14 c14 r A3 c3 r true _ HC14.out HL14.out (Kd.S_reads' HW14.out).2.2 (Kd.S_reads' HW14.out).2.1 E4.out).mono ?_; rintro e w15 ⟨rfl, hb⟩
           have HG15 := Aside0.mk (Kd.S_below HG14.out hb)
           have HB15 := Aside0.mk (below_step HB14.out hb)
           have T16 : Tok 16 := ⟨⟩
           clear hb HW14 HG14 HB14 HC14 HL14)
        | (clear T16; go_at_call 25; refine (held_at (laws_heldSetS.calls k A5 c5 r2 1 m _ (c_at (Kd.S_reads' HG15.out).2.2 EL.out) (EL.out ▸ (Kd.S_reads' HG15.out).2.1) E8.out) EL.out).mono ?_; rintro e w16 ⟨rfl, hb⟩
           have HB16 := Aside0.mk (below_step HB15.out hb)
           clear hb HG15 HB15))
      go_ret
      exact ⟨rfl, HB16.out⟩)
end Go.Proofs.YtiegkjimpclmaaaGreatDoor.P
namespace Go.Proofs.YtiegkjimpclmaaaGreatDoor.Pure
open Go.RowKit Go.Proofs.YtiegkjimpclmaaaGreatDoor.P Go.Proofs.YtiegkjimpclmaaaGreatDoorW.PrintWords Go.Proofs.YtiegkjimpclmaaaGreatDoorW.PrintLast Go.Proofs.YtiegkjimpclmaaaGreatDoorW.PrintMore
set_option linter.unusedVariables false
set_option linter.unusedSimpArgs false
abbrev badS : List SSet × Bool := (([] : List SSet), false)
def valT (o : Option (List SSet)) : List SSet × Bool := match o with | none => badS | some S => if (S.length : Int) > 40 then badS else (S, true)
theorem areRecs_ev : ∀ (l : List IRec), (∀ r ∈ l, SmR r) → Ev (fun k => impl_areRecords.f k l) (l.all gd)
 | [], _ => Ev.now true
 | x :: xs, h => by
  refine Ev.congr (fun k => rfl) (Ev.bind (gd_ev x (h x (by simp))).1 ?_)
  rw [List.all_cons]
  cases gd x with
  | true => simp only [if_true, Bool.true_and]; exact areRecs_ev xs (fun r hr => h r (by simp [hr]))
  | false => simp only [Bool.false_eq_true, if_false, Bool.false_and]; exact Ev.now false
theorem rdB (l : List ByteArray) (i : Nat) (h : i < l.length) : rdOf ByteArray.empty l (i : Int) = l[i] := mS_rd l i h
open Classical in
theorem index_ev (d : ByteArray) (l : List ByteArray) (hl : l.length < 1099511627776) : ∀ (m i : Nat), i + m = l.length → ∃ t : Int, Ev (fun k => slices_Index_string_string.l0 k l d (l.length : Int) (i : Int)) t ∧ (decide (t ≥ 0) = decide (d ∈ l.drop i))
 | 0, i, hi => by
  refine ⟨-1, Ev.step (f := fun _ => some (-1)) (fun k => ?_) (Ev.now _), ?_⟩
  · rw [slices_Index_string_string.l0, if_neg (by omega)]
  · rw [List.drop_of_length_le (by omega)]; simp
 | m + 1, i, hi => by
  have hlt : i < l.length := by omega
  have e0 : ∀ k, slices_Index_string_string.l0 (k + 1) l d (l.length : Int) (i : Int) = if d.toList = l[i].toList then some (i : Int) else slices_Index_string_string.l0 k l d (l.length : Int) (wrap64 ((i : Int) + 1)) := fun k => by
   rw [slices_Index_string_string.l0, if_pos (by omega), if_pos (by omega), if_pos (by omega), rdB l i hlt]
  rw [List.drop_eq_getElem_cons hlt]
  by_cases h : d = l[i]
  · refine ⟨(i : Int), Ev.step (f := fun _ => some (i : Int)) (fun k => ?_) (Ev.now _), ?_⟩
    · rw [e0, if_pos ((toL_iff _ _).2 h)]
    · rw [decide_eq_true (by omega), decide_eq_true (show d ∈ l[i] :: l.drop (i + 1) from List.mem_cons.2 (.inl h))]
  · obtain ⟨t, ht, hd⟩ := index_ev d l hl m (i + 1) (by omega)
    refine ⟨t, Ev.step (fun k => ?_) ht, ?_⟩
    · rw [e0, if_neg (fun e => h ((toL_iff _ _).1 e)), w64n (by omega)]
    · rw [hd]; simp only [List.mem_cons, h, false_or]
open Classical in
theorem contains_ev (d : ByteArray) (l : List ByteArray) (hl : l.length < 1099511627776) : Ev (fun k => slices_Contains_string_string.f k l d) (decide (d ∈ l)) := by
 obtain ⟨t, ht, hd⟩ := index_ev d l hl l.length 0 (by omega)
 rw [List.drop_zero] at hd
 refine Ev.congr (fun k => rfl) (Ev.bind (g := fun k => slices_Index_string_string.f k l d) ht ?_)
 show Ev (fun _ => some (decide (t ≥ 0))) _
 rw [hd]
 exact Ev.now _
theorem so_new (k : Nat) (acc : List SSet) (x7 : Int) (all : List IRec) (n i : Int) (a : ByteArray) (b c : Int) (d : ByteArray) : impl_SetsOf.j2 (k + 1) acc x7 all n i true a b c d = (if acc.length < 2513169434916 then (impl_SetsOf.l0 k (acc ++ [(⟨a, b, c, (([d] : List ByteArray))⟩ : SSet)]) all n (wrap64 (i + 1))) else (none)) := rfl
theorem so_same (k : Nat) (acc : List SSet) (x7 : Int) (all : List IRec) (n i : Int) (a : ByteArray) (b c : Int) (d : ByteArray) : impl_SetsOf.j2 (k + 1) acc x7 all n i false a b c d = (if 0 ≤ x7 then (if x7 < (acc.length : Int) then (if ((rd_T83 acc x7).f2) = c then ((slices_Contains_string_string.f k ((rd_T83 acc x7).f3) d).bind fun t558 => (if t558 = true then (impl_SetsOf.l0 k acc all n (wrap64 (i + 1))) else (if ((rd_T83 acc x7).f3).length < 8796093022208 then (impl_SetsOf.l0 k (acc.set (x7 : Int).toNat (⟨(rd_T83 acc x7).f0, (rd_T83 acc x7).f1, (rd_T83 acc x7).f2, (((rd_T83 acc x7).f3) ++ [d])⟩ : SSet)) all n (wrap64 (i + 1))) else (none)))) else (some badS)) else (none)) else (none)) := rfl
open Classical in
theorem so_loop (all : List IRec) (hl : all.length < 1099511627776) : ∀ (m i : Nat) (acc : List SSet), i + m = all.length → acc.length ≤ i → (∀ s ∈ acc, s.f3.length ≤ i) → Ev (fun k => impl_SetsOf.l0 k acc all (all.length : Int) (i : Int)) (valT (gfC acc (all.drop i)))
 | 0, i, acc, hi, ha, hs => by
  rw [List.drop_of_length_le (by omega)]
  refine Ev.step (f := fun _ => some (valT (some acc))) (fun k => ?_) (Ev.now _)
  show impl_SetsOf.l0 (k + 1) acc all (all.length : Int) (i : Int) = _
  rw [impl_SetsOf.l0, if_neg (by omega)]
  show _ = some (if (acc.length : Int) > 40 then badS else (acc, true))
  by_cases h : (acc.length : Int) > 40
  · rw [if_pos h, if_pos h]
  · rw [if_neg h, if_neg h]
 | m + 1, i, acc, hi, ha, hs => by
  have hlt : i < all.length := by omega
  have hw : wrap64 ((i : Int) + 1) = ((i + 1 : Nat) : Int) := w64n (by omega)
  rw [List.drop_eq_getElem_cons hlt]
  show Ev _ (valT ((gstepC acc all[i]).bind fun a => gfC a (all.drop (i + 1))))
  have hnew : ∀ x7 : Int, Ev (fun k => impl_SetsOf.j2 k acc x7 all (all.length : Int) (i : Int) true all[i].f0 all[i].f1 all[i].f2 all[i].f3) (valT (gfC (acc ++ [new all[i]]) (all.drop (i + 1)))) := by
   intro x7
   have ih := so_loop all hl m (i + 1) (acc ++ [new all[i]]) (by omega) (by rw [List.length_append, List.length_singleton]; omega) (fun s h => by
    rcases List.mem_append.1 h with h | h
    · have := hs s h; omega
    · rw [List.mem_singleton.1 h]; simp [new])
   refine Ev.step (fun k => ?_) ih
   rw [so_new, if_pos (by omega), hw]
   rfl
  have e0 : ∀ k, impl_SetsOf.l0 (k + 1) acc all (all.length : Int) (i : Int) = (if (wrap64 ((acc.length : Int) - 1)) < 0 then (impl_SetsOf.j2 k acc (wrap64 ((acc.length : Int) - 1)) all (all.length : Int) (i : Int) true all[i].f0 all[i].f1 all[i].f2 all[i].f3) else (if 0 ≤ (wrap64 ((acc.length : Int) - 1)) then (if (wrap64 ((acc.length : Int) - 1)) < (acc.length : Int) then (if ((rd_T83 acc (wrap64 ((acc.length : Int) - 1))).f0).toList = all[i].f0.toList then (impl_SetsOf.j2 k acc (wrap64 ((acc.length : Int) - 1)) all (all.length : Int) (i : Int) (((rd_T83 acc (wrap64 ((acc.length : Int) - 1))).f1) != all[i].f1) all[i].f0 all[i].f1 all[i].f2 all[i].f3) else (impl_SetsOf.j2 k acc (wrap64 ((acc.length : Int) - 1)) all (all.length : Int) (i : Int) true all[i].f0 all[i].f1 all[i].f2 all[i].f3)) else (none)) else (none))) := fun k => by
   rw [impl_SetsOf.l0, if_pos (by omega), if_pos (by omega), if_pos (by omega), rdI all i hlt]
  refine Ev.step e0 ?_
  unfold gstepC
  rcases List.eq_nil_or_concat acc with rfl | ⟨pre, q, rfl⟩
  · have hww : wrap64 ((([] : List SSet).length : Int) - 1) = -1 := by show wrap64 (((0 : Nat) : Int) - 1) = -1; unfold wrap64; omega
    simp only [hww, if_pos (show ((-1 : Int) < 0) by omega), List.getLast?_nil, Option.bind_some]
    exact hnew _
  · rw [List.concat_eq_append] at *
    have hlen : (pre ++ [q]).length = pre.length + 1 := by simp
    have hww : wrap64 (((pre ++ [q]).length : Int) - 1) = (pre.length : Int) := by rw [hlen, w64p (by omega) (by omega)]; rfl
    have hrd : rd_T83 (pre ++ [q]) (pre.length : Int) = q := by rw [rdSS _ _ (by omega)]; simp
    simp only [hww, hrd, if_neg (show ¬ (pre.length : Int) < 0 by omega), if_pos (show (0 : Int) ≤ (pre.length : Int) by omega), if_pos (show (pre.length : Int) < ((pre ++ [q]).length : Int) by omega), List.getLast?_append, List.getLast?_singleton, Option.some_or]
    by_cases h0 : q.f0 = all[i].f0
    · simp only [if_pos ((toL_iff _ _).2 h0)]
      by_cases h1 : q.f1 = all[i].f1
      · rw [if_pos ⟨h0, h1⟩, show (q.f1 != all[i].f1) = false by rw [h1]; exact bne_self_eq_false _]
        by_cases h2 : q.f2 = all[i].f2
        · rw [if_pos h2]
          have hq3 := hs q (by simp)
          have e1 : ∀ k, impl_SetsOf.j2 (k + 1) (pre ++ [q]) (pre.length : Int) all (all.length : Int) (i : Int) false all[i].f0 all[i].f1 all[i].f2 all[i].f3 = ((slices_Contains_string_string.f k q.f3 all[i].f3).bind fun t558 => (if t558 = true then (impl_SetsOf.l0 k (pre ++ [q]) all (all.length : Int) (wrap64 ((i : Int) + 1))) else (impl_SetsOf.l0 k ((pre ++ [q]).set pre.length (⟨q.f0, q.f1, q.f2, q.f3 ++ [all[i].f3]⟩ : SSet)) all (all.length : Int) (wrap64 ((i : Int) + 1))))) := fun k => by
           rw [so_same, if_pos (by omega), if_pos (by omega), hrd, if_pos h2, Int.toNat_natCast]
           simp only [if_pos (show q.f3.length < 8796093022208 by omega)]
          refine Ev.step e1 (Ev.bind (contains_ev all[i].f3 q.f3 (by omega)) ?_)
          by_cases hc : all[i].f3 ∈ q.f3
          · simp only [decide_eq_true hc, if_true, if_pos hc, Option.bind_some, hw]
            exact so_loop all hl m (i + 1) (pre ++ [q]) (by omega) (by omega) (fun s h => by have := hs s h; omega)
          · have hset : (pre ++ [q]).set ((pre ++ [q]).length - 1) (⟨q.f0, q.f1, q.f2, q.f3 ++ [all[i].f3]⟩ : SSet) = (pre ++ [q]).set pre.length (⟨q.f0, q.f1, q.f2, q.f3 ++ [all[i].f3]⟩ : SSet) := by rw [hlen, Nat.add_sub_cancel]
            simp only [decide_eq_false hc, Bool.false_eq_true, if_false, if_neg hc, Option.bind_some, hw, hset]
            exact so_loop all hl m (i + 1) ((pre ++ [q]).set pre.length (⟨q.f0, q.f1, q.f2, q.f3 ++ [all[i].f3]⟩ : SSet)) (by omega) (by rw [List.length_set]; omega) (fun s h => by
             rcases List.mem_or_eq_of_mem_set h with h | rfl
             · have := hs s h; omega
             · show (q.f3 ++ [all[i].f3]).length ≤ i + 1
               rw [List.length_append, List.length_singleton]; omega)
        · rw [if_neg h2]
          refine Ev.step (f := fun _ => some badS) (fun k => ?_) (Ev.now _)
          rw [so_same, if_pos (by omega), if_pos (by omega), hrd, if_neg h2]
      · rw [if_neg (fun h => h1 h.2), show (q.f1 != all[i].f1) = true from bne_iff_ne.2 h1, Option.bind_some]
        exact hnew _
    · simp only [if_neg (fun h => h0 ((toL_iff _ _).1 h))]
      rw [if_neg (fun h => h0 h.1), Option.bind_some]
      exact hnew _
theorem goods_all {l : List IRec} (hs : ∀ r ∈ l, SmR r) (h : l.all gd = true) : Goods l := fun x hx => ⟨hs x hx, List.all_eq_true.1 h x hx⟩
open Classical in
noncomputable def setsV (l : List IRec) : List SSet × Bool := if l.length ≤ 60 ∧ l.all gd = true then valT (gf [] (uniq l)) else badS
theorem implSO_ev (l : List IRec) (hs : ∀ r ∈ l, SmR r) : Ev (fun k => impl_SetsOf.f k l) (setsV l) := by
 unfold setsV
 have hbad : Ev (fun k => impl_SetsOf.j0 k l true) badS := Ev.step (f := fun _ => some badS) (fun k => rfl) (Ev.now _)
 by_cases hc : l.length ≤ 60
 · have e0 : ∀ k, impl_SetsOf.f k l = ((impl_areRecords.f k l).bind fun t539 => (impl_SetsOf.j0 k l (!t539))) := fun k => by unfold impl_SetsOf.f; rw [if_neg (by omega)]
   refine Ev.congr e0 (Ev.bind (areRecs_ev l hs) ?_)
   cases hg : l.all gd with
   | false => rw [if_neg (fun h => by cases h.2)]; exact hbad
   | true =>
    rw [if_pos ⟨hc, rfl⟩]
    have hG := goods_all hs hg
    have hf : slices_SortedFunc_rec.f l = some (inOrder l) := if_pos ⟨hc, hG⟩
    have hlen : (inOrder l).length = l.length := (inOrder_spec hG).1.length_eq
    have := so_loop (inOrder l) (by omega) (inOrder l).length 0 [] (by omega) (by simp) (fun s h => by cases h)
    rw [List.drop_zero, gf_uniq hG] at this
    refine Ev.step (fun k => ?_) this
    show impl_SetsOf.j0 (k + 1) l false = _
    rw [impl_SetsOf.j0, if_neg (by decide), hf, Option.bind_some]
    rfl
 · rw [if_neg (fun h => hc h.1)]
   exact Ev.congr (fun k => by unfold impl_SetsOf.f; rw [if_pos (by omega)]) hbad
theorem rec_eq (x : IRec) (a : ByteArray) (b c : Int) (d : ByteArray) : ((x.f0.toList == a.toList) && ((x.f1 == b) && ((x.f2 == c) && (x.f3.toList == d.toList)))) = true ↔ x = ⟨a, b, c, d⟩ := by
 simp only [Bool.and_eq_true, beq_iff_eq, toL_iff]
 constructor
 · rintro ⟨h0, h1, h2, h3⟩; cases x; simp only at h0 h1 h2 h3; subst h0 h1 h2 h3; rfl
 · rintro rfl; exact ⟨rfl, rfl, rfl, rfl⟩
theorem put_out (k : Nat) (l : List IRec) (i : Nat) (r : IRec) (hl : l.length < 1099511627776) (hi : i ≤ l.length) : spec_l3Put.j2 (k + 1) l (i : Int) false r.f0 r.f1 r.f2 r.f3 = some (l.take i ++ r :: l.drop i) := by
 have h1 : (l.take i).length ≤ i := by rw [List.length_take]; omega
 have h2 : (l.drop i).length ≤ l.length := by rw [List.length_drop]; omega
 rw [spec_l3Put.j2, if_neg (by decide), if_pos (by omega), if_pos (by omega), Option.bind_some, Int.toNat_natCast, if_pos (by simp only [List.length_nil]; omega), Option.bind_some, List.nil_append, if_pos (by omega), Option.bind_some, Option.bind_some, if_pos (by simp only [List.length_append, List.length_cons, List.length_nil]; omega)]
 simp
theorem put_loop (l : List IRec) (r : IRec) (hr : SmR r ∧ gd r = true) (hG : Goods l) (hl : l.length < 1099511627776) : ∀ (m i : Nat), i + m = l.length → Ev (fun k => spec_l3Put.l0 k l (i : Int) r.f0 r.f1 r.f2 r.f3) (l.take i ++ insS r (l.drop i))
 | 0, i, hi => by
  rw [List.drop_of_length_le (by omega)]
  refine Ev.step (f := fun k => spec_l3Put.j1 k l (i : Int) false r.f0 r.f1 r.f2 r.f3) (fun k => ?_) (Ev.step (f := fun k => spec_l3Put.j2 k l (i : Int) false r.f0 r.f1 r.f2 r.f3) (fun k => ?_) (Ev.step (f := fun _ => some (l.take i ++ [r])) (fun k => ?_) (Ev.now _)))
  · rw [spec_l3Put.l0, if_neg (by omega)]
  · rw [spec_l3Put.j1, if_neg (by decide), if_neg (by omega)]
  · rw [put_out k l i r hl (by omega), List.drop_of_length_le (by omega)]
 | m + 1, i, hi => by
  have hlt : i < l.length := by omega
  have hy := hG l[i] (List.getElem_mem hlt)
  have e0 : ∀ k, spec_l3Put.l0 (k + 1) l (i : Int) r.f0 r.f1 r.f2 r.f3 = (spec_l3Compare.f k l[i].f0 l[i].f1 l[i].f2 l[i].f3 r.f0 r.f1 r.f2 r.f3).bind fun t494 => (spec_l3Put.j1 k l (i : Int) (decide (t494 < 0)) r.f0 r.f1 r.f2 r.f3) := fun k => by
   rw [spec_l3Put.l0, if_pos (by omega), if_pos (by omega), rdI l i hlt]
  refine Ev.step e0 (Ev.bind (od_ev hy.1 hr.1 hy.2 hr.2).2 ?_)
  rw [List.drop_eq_getElem_cons hlt]
  unfold insS
  by_cases h : od l[i] r < 0
  · rw [if_pos h, decide_eq_true h]
    have ih := put_loop l r hr hG hl m (i + 1) (by omega)
    rw [List.take_succ_eq_append_getElem hlt, List.append_assoc, List.singleton_append] at ih
    refine Ev.step (fun k => ?_) ih
    rw [spec_l3Put.j1, if_pos rfl, w64n (by omega)]
  · rw [if_neg h, decide_eq_false h]
    have e1 : ∀ k, spec_l3Put.j1 (k + 1) l (i : Int) false r.f0 r.f1 r.f2 r.f3 = spec_l3Put.j2 k l (i : Int) ((l[i].f0.toList == r.f0.toList) && ((l[i].f1 == r.f1) && ((l[i].f2 == r.f2) && (l[i].f3.toList == r.f3.toList)))) r.f0 r.f1 r.f2 r.f3 := fun k => by
     rw [spec_l3Put.j1, if_neg (by decide), if_pos (by omega), if_pos (by omega), rdI l i hlt]
    refine Ev.step e1 ?_
    by_cases c : l[i] = r
    · rw [if_pos c, (rec_eq l[i] r.f0 r.f1 r.f2 r.f3).2 c]
      refine Ev.step (f := fun _ => some l) (fun k => rfl) ?_
      have : l.take i ++ l[i] :: l.drop (i + 1) = l := by rw [← List.drop_eq_getElem_cons hlt, List.take_append_drop]
      rw [this]
      exact Ev.now _
    · have hb : ((l[i].f0.toList == r.f0.toList) && ((l[i].f1 == r.f1) && ((l[i].f2 == r.f2) && (l[i].f3.toList == r.f3.toList)))) = false := Bool.eq_false_iff.2 (fun h => c ((rec_eq l[i] r.f0 r.f1 r.f2 r.f3).1 h))
      rw [if_neg c, hb]
      refine Ev.step (fun k => put_out k l i r hl (by omega)) ?_
      rw [List.drop_eq_getElem_cons hlt]
      exact Ev.now _
theorem put_ev (l : List IRec) (r : IRec) (hr : SmR r ∧ gd r = true) (hG : Goods l) (hl : l.length < 1099511627776) : Ev (fun k => spec_l3Put.f k l r.f0 r.f1 r.f2 r.f3) (insS r l) := by
 have := put_loop l r hr hG hl l.length 0 (by omega)
 rw [List.take_zero, List.nil_append, List.drop_zero] at this
 exact this
theorem valG_T (l : List IRec) (n : Nat) (o : Option (List SSet)) : (if (valG o).2 = true then (if (n : Int) > 60 then (some badS) else (some ((valG o).1, true))) else (some badS)) = some (if n ≤ 60 then valT o else badS) := by
 cases o with
 | none => unfold valG valT; simp
 | some S =>
  show (if decide ((S.length : Int) ≤ 40) = true then (if (n : Int) > 60 then (some badS) else (some (S, true))) else (some badS)) = some (if n ≤ 60 then (if (S.length : Int) > 40 then badS else (S, true)) else badS)
  by_cases h1 : (S.length : Int) ≤ 40
  · rw [if_pos (decide_eq_true h1), if_neg (show ¬ (S.length : Int) > 40 by omega)]
    by_cases h2 : n ≤ 60
    · rw [if_pos h2, if_neg (by omega)]
    · rw [if_neg h2, if_pos (by omega)]
  · rw [if_neg (by simpa using h1), if_pos (show (S.length : Int) > 40 by omega)]
    simp
theorem sso_loop (l : List IRec) (hl : l.length ≤ 1048576) (hs : ∀ r ∈ l, SmR r) : ∀ (m i : Nat) (acc : List IRec), i + m = l.length → acc.length ≤ i → Goods acc → Ev (fun k => spec_SetsOf.l0 k l acc l (l.length : Int) (i : Int)) (if (l.drop i).all gd = true then (if l.length ≤ 60 then valT (gf [] (insAll acc (l.drop i))) else badS) else badS)
 | 0, i, acc, hi, ha, hG => by
  rw [List.drop_of_length_le (by omega), List.all_nil, if_pos rfl]
  refine Ev.step (f := fun k => (spec_l3Sets.f k acc).bind fun bt513 => (if bt513.2 = true then (if (l.length : Int) > 60 then (some badS) else (some (bt513.1, true))) else (some badS))) (fun k => ?_) (Ev.bind (l3_ev acc (by omega)) ?_)
  · rw [spec_SetsOf.l0, if_neg (by omega)]
  · rw [valG_T l l.length]
    exact Ev.now _
 | m + 1, i, acc, hi, ha, hG => by
  have hlt : i < l.length := by omega
  have hr := hs l[i] (List.getElem_mem hlt)
  have e0 : ∀ k, spec_SetsOf.l0 (k + 1) l acc l (l.length : Int) (i : Int) = (spec_GoodRecord.f k l[i].f0 l[i].f1 l[i].f2 l[i].f3).bind fun t519 => (if t519 = true then ((spec_l3Put.f k acc l[i].f0 l[i].f1 l[i].f2 l[i].f3).bind fun t520 => (spec_SetsOf.l0 k l t520 l (l.length : Int) (wrap64 ((i : Int) + 1)))) else (some badS)) := fun k => by
   rw [spec_SetsOf.l0, if_pos (by omega), if_pos (by omega), if_pos (by omega), rdI l i hlt]
  refine Ev.step e0 (Ev.bind (gd_ev l[i] hr).2 ?_)
  rw [List.drop_eq_getElem_cons hlt, List.all_cons]
  cases hg : gd l[i] with
  | false => simp only [Bool.false_eq_true, if_false, Bool.false_and]; exact Ev.now _
  | true =>
   simp only [if_true, Bool.true_and]
   refine Ev.bind (put_ev acc l[i] ⟨hr, hg⟩ hG (by omega)) ?_
   rw [w64n (by omega)]
   have hlen := insS_len l[i] acc
   exact sso_loop l hl hs m (i + 1) (insS l[i] acc) (by omega) (by omega) (fun z hz => by
    rcases (insS_mem l[i] acc z).1 hz with rfl | hz
    · exact ⟨hr, hg⟩
    · exact hG z hz)
theorem specSO_ev (l : List IRec) (hl : l.length ≤ 1048576) (hs : ∀ r ∈ l, SmR r) : Ev (fun k => spec_SetsOf.f k l) (setsV l) := by
 have h := sso_loop l hl hs l.length 0 [] (by omega) (by simp) (fun z hz => by cases hz)
 rw [List.drop_zero] at h
 refine Ev.congr (fun k => rfl) ?_
 have e : setsV l = (if l.all gd = true then (if l.length ≤ 60 then valT (gf [] (insAll [] l)) else badS) else badS) := by
  unfold setsV
  cases hg : l.all gd with
  | false => rw [if_neg (fun h => by cases h.2), if_neg (by decide)]
  | true =>
   rw [insAll_uniq (goods_all hs hg), if_pos rfl]
   by_cases hc : l.length ≤ 60
   · rw [if_pos ⟨hc, rfl⟩, if_pos hc]
   · rw [if_neg (fun h => hc h.1), if_neg hc]
 rw [e]
 exact h
end Go.Proofs.YtiegkjimpclmaaaGreatDoor.Pure
namespace Go.Proofs.YtiegkjimpclmaaaGreatDoor.Pure
open Go.RowKit Go.Proofs.YtiegkjimpclmaaaGreatDoor.P Go.Proofs.YtiegkjimpclmaaaGreatDoorW.PrintWords Go.Proofs.YtiegkjimpclmaaaGreatDoorW.PrintLast Go.Proofs.YtiegkjimpclmaaaGreatDoorW.PrintMore
set_option linter.unusedVariables false
set_option linter.unusedSimpArgs false
theorem setsV_size (l : List IRec) (hs : ∀ r ∈ l, SmR r) : (setsV l).1.length ≤ 40 ∧ cntS (setsV l).1 ≤ 60 := by
 unfold setsV
 split
 · rename_i h
   have hu := (uniq_spec (goods_all hs h.2)).2.2
   cases hg : gf [] (uniq l) with
   | none => exact ⟨by simp [valT], by simp [valT, cntS]⟩
   | some S =>
    have hf := gf_flat _ _ _ hg
    show (if (S.length : Int) > 40 then badS else (S, true)).1.length ≤ 40 ∧ cntS (if (S.length : Int) > 40 then badS else (S, true)).1 ≤ 60
    have hc : cntS S = (uniq l).length := by rw [← flat_len, hf]; simp
    split
    · exact ⟨by simp, by simp [cntS]⟩
    · exact ⟨by show S.length ≤ 40; omega, by show cntS S ≤ 60; omega⟩
 · exact ⟨by simp, by simp [cntS]⟩
theorem cntS_at : ∀ (l : List SSet), ∀ y ∈ l, y.f3.length ≤ cntS l
 | [], y, h => by cases h
 | x :: l, y, h => by
  rw [cntS_cons]
  rcases List.mem_cons.1 h with rfl | h
  · omega
  · have := cntS_at l y h; omega
theorem FnExactSetsOf : ∀ l : List LRec, l.length ≤ maxLen → (∀ y ∈ l, y.f0.size ≤ maxLen ∧ y.f3.size ≤ maxLen) → ∃ k, laws_FnExactSetsOf.f k l := by
 intro l hm hs
 obtain ⟨t, ⟨k0, e0⟩, ht⟩ := szRS_ev l 1048576 (by omega) (by omega) hm hs
 by_cases hn : t < 0
 · exact ⟨k0, t, e0 k0 (Nat.le_refl _), Or.inl hn⟩
 · obtain ⟨_, hc, hsm⟩ := ht (by omega)
   have hsm' : ∀ r ∈ l.map conv, SmR r := fun r hr => by
    obtain ⟨z, hz, rfl⟩ := List.mem_map.1 hr
    exact hsm z hz
   have hl' : (l.map conv).length ≤ 1048576 := by rw [List.length_map]; omega
   obtain ⟨k1, e1⟩ := toRS_ev l (by omega)
   obtain ⟨k2, e2⟩ := specSO_ev (l.map conv) hl' hsm'
   obtain ⟨k3, e3⟩ := implSO_ev (l.map conv) hsm'
   obtain ⟨h40, h60⟩ := setsV_size (l.map conv) hsm'
   have hy : ∀ y ∈ (setsV (l.map conv)).1, y.f3.length ≤ 60 := fun y h => by have := cntS_at _ y h; omega
   obtain ⟨k4, e4⟩ := eqSS_ev (setsV (l.map conv)).1 (by omega) (fun y h => by have := hy y h; omega)
   obtain ⟨k5, e5⟩ := eqRS_ev (l.map conv) hl'
   obtain ⟨k6, e6⟩ := markR_ev 1 (by omega) (l.map conv) hl'
   obtain ⟨k7, e7⟩ := markQ_ev (setsV (l.map conv)).1 (by omega) (fun y h => by have := hy y h; omega)
   obtain ⟨k8, e8⟩ := heldQ_ev (setsV (l.map conv)).1 (by omega) (fun y h => by have := hy y h; omega)
   refine ⟨k0 + k1 + k2 + k3 + k4 + k5 + k6 + k7 + k8, t, e0 _ (by omega), Or.inr ⟨by omega, l.map conv, (setsV (l.map conv)).1, (setsV (l.map conv)).2, _, _, _, _, e1 _ (by omega), e2 _ (by omega), e3 _ (by omega), e4 _ (by omega), e5 _ (by omega), e6 _ (by omega), by omega, e7 _ (by omega), by omega, e8 _ (by omega)⟩⟩
end Go.Proofs.YtiegkjimpclmaaaGreatDoor.Pure
namespace Go.Proofs.YtiegkjimpclmaaaGreatDoor.fnExactSetsOf
open Go.ChangeShapes Go.WideShapes Go.ChangeAt Go.RowKit Go.Joins Go.Proofs.YtiegkjimpclmaaaGreatDoor.P Go.Proofs.YtiegkjimpclmaaaGreatDoorW.PrintWords
open Go.ChangeMaps (open_string shut_string)
set_option linter.unusedVariables false
theorem own : ownKnob Tryz.prog.godebug = none := by kernel_rfl
theorem laidOut : laidOutB Tryz.prog = true := by kernel_rfl
instance : Inhabited (P.S91) := ⟨P.z91⟩
theorem opens_rec : Opens Tryz.prog 91 P.k91 (fun x => x.f0.size ≤ maxLen ∧ x.f3.size ≤ maxLen) :=
  Opens.imp (opens_iso (f := fun x : P.S91 => (x.f0, x.f1, x.f2, x.f3)) (fun x => (⟨x.1, x.2.1, x.2.2.1, x.2.2.2⟩ : P.S91)) (fun _ => rfl) (opens_struct4 Tryz.underlying91 (by kernel_rfl) (by kernel_rfl) (opens_text Tryz.underlying9) (opens_int Tryz.underlying3) (opens_int Tryz.underlying3) (opens_text Tryz.underlying9))) fun x h => ⟨h.1, h.2.2.2⟩
theorem opens_recs : Opens Tryz.prog 37 (Kd.slice 91 P.k91) (fun l => l.length ≤ maxLen ∧ ∀ y ∈ l, y.f0.size ≤ maxLen ∧ y.f3.size ≤ maxLen) :=
  opens_slice Tryz.underlying37 (by kernel_rfl) opens_rec
noncomputable def low : Nat := (World.holding Tryz.prog default ⟨#[], #[], []⟩).heap.size
noncomputable def laidWorld (os : Os) : World :=
  { World.holding Tryz.prog os ⟨#[.cells #[.string { data := #[118, 97, 108, 117, 101, 32, 111, 117, 116, 32, 111, 102, 32, 114, 97, 110, 103, 101] }] 233, .cells #[.string { data := #[105, 110, 118, 97, 108, 105, 100, 32, 115, 121, 110, 116, 97, 120] }] 233], #[], []⟩ with heap := ((((((((World.holding Tryz.prog os ⟨#[.cells #[.string { data := #[118, 97, 108, 117, 101, 32, 111, 117, 116, 32, 111, 102, 32, 114, 97, 110, 103, 101] }] 233, .cells #[.string { data := #[105, 110, 118, 97, 108, 105, 100, 32, 115, 121, 110, 116, 97, 120] }] 233], #[], []⟩).heap.modify 6 fun
      | .cells _ t frozen => .cells #[.int .u8 0, .int .u8 1, .int .u8 28, .int .u8 2, .int .u8 29, .int .u8 14, .int .u8 24, .int .u8 3, .int .u8 30, .int .u8 22, .int .u8 20, .int .u8 15, .int .u8 25, .int .u8 17, .int .u8 4, .int .u8 8, .int .u8 31, .int .u8 27, .int .u8 13, .int .u8 23, .int .u8 21, .int .u8 19, .int .u8 16, .int .u8 7, .int .u8 26, .int .u8 12, .int .u8 18, .int .u8 6, .int .u8 11, .int .u8 5, .int .u8 10, .int .u8 9] t frozen
      | o => o).modify 7 fun
      | .cells _ t frozen => .cells #[.int .u8 0, .int .u8 1, .int .u8 56, .int .u8 2, .int .u8 57, .int .u8 49, .int .u8 28, .int .u8 3, .int .u8 61, .int .u8 58, .int .u8 42, .int .u8 50, .int .u8 38, .int .u8 29, .int .u8 17, .int .u8 4, .int .u8 62, .int .u8 47, .int .u8 59, .int .u8 36, .int .u8 45, .int .u8 43, .int .u8 51, .int .u8 22, .int .u8 53, .int .u8 39, .int .u8 33, .int .u8 30, .int .u8 24, .int .u8 18, .int .u8 12, .int .u8 5, .int .u8 63, .int .u8 55, .int .u8 48, .int .u8 27, .int .u8 60, .int .u8 41, .int .u8 37, .int .u8 16, .int .u8 46, .int .u8 35, .int .u8 44, .int .u8 21, .int .u8 52, .int .u8 32, .int .u8 23, .int .u8 11, .int .u8 54, .int .u8 26, .int .u8 40, .int .u8 15, .int .u8 34, .int .u8 20, .int .u8 31, .int .u8 10, .int .u8 25, .int .u8 14, .int .u8 19, .int .u8 9, .int .u8 13, .int .u8 8, .int .u8 7, .int .u8 6] t frozen
      | o => o).modify 3 fun
      | .cells _ t frozen => .cells #[.int .u64 1, .int .u64 10, .int .u64 100, .int .u64 1000, .int .u64 10000, .int .u64 100000, .int .u64 1000000, .int .u64 10000000, .int .u64 100000000, .int .u64 1000000000, .int .u64 10000000000, .int .u64 100000000000, .int .u64 1000000000000, .int .u64 10000000000000, .int .u64 100000000000000, .int .u64 1000000000000000, .int .u64 10000000000000000, .int .u64 100000000000000000, .int .u64 1000000000000000000, .int .u64 10000000000000000000] t frozen
      | o => o).modify 5 fun
      | .cells _ t frozen => .cells #[.int .u8 128, .int .u8 191, .int .u8 160, .int .u8 191, .int .u8 128, .int .u8 159, .int .u8 144, .int .u8 191, .int .u8 128, .int .u8 143, .int .u8 0, .int .u8 0, .int .u8 0, .int .u8 0, .int .u8 0, .int .u8 0, .int .u8 0, .int .u8 0, .int .u8 0, .int .u8 0, .int .u8 0, .int .u8 0, .int .u8 0, .int .u8 0, .int .u8 0, .int .u8 0, .int .u8 0, .int .u8 0, .int .u8 0, .int .u8 0, .int .u8 0, .int .u8 0] t frozen
      | o => o).modify 2 fun
      | .cells _ t frozen => .cells #[.iface 231 (.pointer (some ⟨low, 0, none⟩))] t frozen
      | o => o).modify 1 fun
      | .cells _ t frozen => .cells #[.iface 231 (.pointer (some ⟨low + 1, 0, none⟩))] t frozen
      | o => o).modify 4 fun
      | .cells _ t frozen => .cells #[.int .u8 240, .int .u8 240, .int .u8 240, .int .u8 240, .int .u8 240, .int .u8 240, .int .u8 240, .int .u8 240, .int .u8 240, .int .u8 240, .int .u8 240, .int .u8 240, .int .u8 240, .int .u8 240, .int .u8 240, .int .u8 240, .int .u8 240, .int .u8 240, .int .u8 240, .int .u8 240, .int .u8 240, .int .u8 240, .int .u8 240, .int .u8 240, .int .u8 240, .int .u8 240, .int .u8 240, .int .u8 240, .int .u8 240, .int .u8 240, .int .u8 240, .int .u8 240, .int .u8 240, .int .u8 240, .int .u8 240, .int .u8 240, .int .u8 240, .int .u8 240, .int .u8 240, .int .u8 240, .int .u8 240, .int .u8 240, .int .u8 240, .int .u8 240, .int .u8 240, .int .u8 240, .int .u8 240, .int .u8 240, .int .u8 240, .int .u8 240, .int .u8 240, .int .u8 240, .int .u8 240, .int .u8 240, .int .u8 240, .int .u8 240, .int .u8 240, .int .u8 240, .int .u8 240, .int .u8 240, .int .u8 240, .int .u8 240, .int .u8 240, .int .u8 240, .int .u8 240, .int .u8 240, .int .u8 240, .int .u8 240, .int .u8 240, .int .u8 240, .int .u8 240, .int .u8 240, .int .u8 240, .int .u8 240, .int .u8 240, .int .u8 240, .int .u8 240, .int .u8 240, .int .u8 240, .int .u8 240, .int .u8 240, .int .u8 240, .int .u8 240, .int .u8 240, .int .u8 240, .int .u8 240, .int .u8 240, .int .u8 240, .int .u8 240, .int .u8 240, .int .u8 240, .int .u8 240, .int .u8 240, .int .u8 240, .int .u8 240, .int .u8 240, .int .u8 240, .int .u8 240, .int .u8 240, .int .u8 240, .int .u8 240, .int .u8 240, .int .u8 240, .int .u8 240, .int .u8 240, .int .u8 240, .int .u8 240, .int .u8 240, .int .u8 240, .int .u8 240, .int .u8 240, .int .u8 240, .int .u8 240, .int .u8 240, .int .u8 240, .int .u8 240, .int .u8 240, .int .u8 240, .int .u8 240, .int .u8 240, .int .u8 240, .int .u8 240, .int .u8 240, .int .u8 240, .int .u8 240, .int .u8 240, .int .u8 240, .int .u8 240, .int .u8 241, .int .u8 241, .int .u8 241, .int .u8 241, .int .u8 241, .int .u8 241, .int .u8 241, .int .u8 241, .int .u8 241, .int .u8 241, .int .u8 241, .int .u8 241, .int .u8 241, .int .u8 241, .int .u8 241, .int .u8 241, .int .u8 241, .int .u8 241, .int .u8 241, .int .u8 241, .int .u8 241, .int .u8 241, .int .u8 241, .int .u8 241, .int .u8 241, .int .u8 241, .int .u8 241, .int .u8 241, .int .u8 241, .int .u8 241, .int .u8 241, .int .u8 241, .int .u8 241, .int .u8 241, .int .u8 241, .int .u8 241, .int .u8 241, .int .u8 241, .int .u8 241, .int .u8 241, .int .u8 241, .int .u8 241, .int .u8 241, .int .u8 241, .int .u8 241, .int .u8 241, .int .u8 241, .int .u8 241, .int .u8 241, .int .u8 241, .int .u8 241, .int .u8 241, .int .u8 241, .int .u8 241, .int .u8 241, .int .u8 241, .int .u8 241, .int .u8 241, .int .u8 241, .int .u8 241, .int .u8 241, .int .u8 241, .int .u8 241, .int .u8 241, .int .u8 241, .int .u8 241, .int .u8 2, .int .u8 2, .int .u8 2, .int .u8 2, .int .u8 2, .int .u8 2, .int .u8 2, .int .u8 2, .int .u8 2, .int .u8 2, .int .u8 2, .int .u8 2, .int .u8 2, .int .u8 2, .int .u8 2, .int .u8 2, .int .u8 2, .int .u8 2, .int .u8 2, .int .u8 2, .int .u8 2, .int .u8 2, .int .u8 2, .int .u8 2, .int .u8 2, .int .u8 2, .int .u8 2, .int .u8 2, .int .u8 2, .int .u8 2, .int .u8 19, .int .u8 3, .int .u8 3, .int .u8 3, .int .u8 3, .int .u8 3, .int .u8 3, .int .u8 3, .int .u8 3, .int .u8 3, .int .u8 3, .int .u8 3, .int .u8 3, .int .u8 35, .int .u8 3, .int .u8 3, .int .u8 52, .int .u8 4, .int .u8 4, .int .u8 4, .int .u8 68, .int .u8 241, .int .u8 241, .int .u8 241, .int .u8 241, .int .u8 241, .int .u8 241, .int .u8 241, .int .u8 241, .int .u8 241, .int .u8 241, .int .u8 241] t frozen
      | o => o) }
set_option maxRecDepth 100000 in
theorem laid_met (os : Os) : laidMet Tryz.prog Rows.fnExactSetsOfRow.laid ((laidWorld os).forCall (fun _ _ => 0) ⟨#[], #[.slice none 0 0], []⟩).memory :=
  laidMet_of_run' 8 (by kernel_rfl) (by kernel_rfl)
theorem ptr_row (u : TypeId) (h : Tryz.prog.typeName? 3 u = some "*errors.errorString") : u = 231 :=
  typeName_ptr_named (nm := "errors.errorString") (by rw [show "*" ++ "errors.errorString" = "*errors.errorString" by decide]; kernel_rfl) (by kernel_rfl) (by decide) u (by rw [show "*" ++ "errors.errorString" = "*errors.errorString" by decide]; exact h)
theorem vars_of {W : World} (hL : laidMet Tryz.prog Rows.fnExactSetsOfRow.laid W) : P.Vars W := by
  obtain ⟨_, _, hs, -, -, -⟩ := laid_sentinel (n := "strconv.ErrSyntax") (g := 1) hL.tail.tail.tail.tail.tail (by kernel_rfl) (by kernel_rfl) Tryz.underlying104 ptr_row Tryz.underlying231 Tryz.underlying233 rfl rfl Tryz.underlying9 (by kernel_rfl) (by kernel_rfl)
  obtain ⟨_, _, hr, -, -, -⟩ := laid_sentinel (n := "strconv.ErrRange") (g := 2) hL.tail.tail.tail.tail (by kernel_rfl) (by kernel_rfl) Tryz.underlying104 ptr_row Tryz.underlying231 Tryz.underlying233 rfl rfl Tryz.underlying9 (by kernel_rfl) (by kernel_rfl)
  have hp : laidMet Tryz.prog (("internal/strconv.uint64pow10", Lib.tabData .u64 Lib.pow10Tab) :: _) W := hL.tail.tail
  have ht := Lib.tabIs_of_head (g := 3) (by kernel_rfl) (by kernel_rfl) Tryz.underlying221 Tryz.underlying115 (by kernel_rfl) (by kernel_rfl) hp
  exact ⟨⟨_, _, hs⟩, ⟨_, _, hr⟩, ht⟩
set_option maxRecDepth 100000 in
theorem contract (H : Type) (enc : TypeId × Value → H) (W : World) (base : Nat) (args : Array Value) (ds gs : List (DataW H)) (before : List MemPlace)
    (hval0 : ∀ (j : Nat) t v, Tryz.f5.params[j]? = some t → args[j]? = some v → Value.okWide Tryz.prog W .any base t v)
    (hW : DataW.Whole enc Tryz.prog Tryz.f5.params.toList Rows.fnExactSetsOfSpec.vars false W args.toList ds gs before)
    (hsz0 : (DataW.weightsEach Tryz.prog (Tryz.f5.params.toList ++ Rows.fnExactSetsOfSpec.plain.varTypes Tryz.prog) (ds ++ gs)).all (· ≤ reachBytes) = true) (hL : laidMet Tryz.prog Rows.fnExactSetsOfRow.laid W) :
    Calls Tryz.prog 5 args W fun e W' => ∃ v, e = .returned v ∧ Rows.fnExactSetsOfSpec.post enc Tryz.prog Tryz.f5 false true false false W args v W' := by
  have hsz : (DataW.weightsEach Tryz.prog (Tryz.f5.params.toList ++ Rows.fnExactSetsOfSpec.plain.varTypes Tryz.prog) (ds ++ gs)).all (· ≤ reachBytes) = true := hsz0
  have hval : ∀ (j : Nat) t v, Tryz.f5.params[j]? = some t → args[j]? = some v → Value.okWide Tryz.prog W .any base t v := hval0
  have hW' := hW
  obtain ⟨p, q, hA0, hV, rfl, hfz, hnd⟩ := hW
  have hA : DataW.TrodAll enc Tryz.prog W 0 (fun _ => true) true Tryz.f5.params.toList args.toList ds p := hA0
  rw [Tryz.params5] at hA hval hsz
  obtain ⟨v0, vs0, d0, ds0, p0, q0, hargs, rfl, rfl, h0, r0⟩ := trodAll_cons hA
  obtain ⟨rfl, rfl, rfl⟩ := trodAll_nil r0
  obtain rfl : args = #[v0] := by cases args; simp_all
  obtain ⟨rfl, rfl⟩ := trodVars_none hV
  have k0 := h0
  have lt0 : ∀ x ∈ p0, x.block < W.heap.size := by obtain ⟨m, hm⟩ := k0; exact DataW.trod_lt m _ _ _ hm
  obtain ⟨s0, n0, b0, rfl⟩ := okWide_slice Tryz.underlying37 (hval 0 37 v0 rfl rfl)
  obtain ⟨u0, h0⟩ := h0
  have h0 : DataW.trod enc Tryz.prog W 0 (fun _ => true) true u0 37 [.slice s0 n0 b0] = some (d0, p0) := h0
  obtain ⟨g0, ⟨Ag0, cg0, eg0, lg0, rg0⟩, mg0, wg0⟩ := opens_recs H enc W 0 _ true _ _ _ h0
  obtain ⟨rfl, rfl, rfl⟩ : s0 = Ag0 ∧ n0 = g0.length ∧ b0 = cg0 := by simpa using eg0
  clear hA0 hval0 hsz0 hsz
  obtain ⟨k, hk⟩ := Pure.FnExactSetsOf g0 mg0 wg0
  refine (P.laws_FnExactSetsOf.calls k s0 b0 g0 true W rg0 lg0 hk (vars_of hL)).mono fun e W' ⟨he, bel⟩ => ?_
  subst he
  exact ⟨_, rfl, _, _, _, [], _, [], hW', trodAll_mk1 (shut_bool Tryz.underlying4 _), (trodAll_cons_mk (Below.trod laidOut (by kernel_rfl) (of_decide_eq_true (by kernel_rfl)) k0 bel lt0) trodAll_mk0), rfl, bel.frame _, fun h => by cases h⟩
set_option maxRecDepth 100000 in
theorem reads (os : Os) {H : Type} (enc : TypeId × Value → H) : ∃ places, DataW.whole enc Tryz.prog ((laidWorld os).forCall (fun _ _ => 0) ⟨#[], #[.slice none 0 0], []⟩).memory Tryz.f5.params.toList Rows.fnExactSetsOfSpec.vars false (#[.slice none 0 0] : Array Value).toList 8 = some ([.nil], [], places) :=
  ⟨[], by kernel_rfl⟩
set_option maxRecDepth 100000 in
theorem lifted (os : Os) (started : os.Started) (H : Type) (enc : TypeId × Value → H) (F : Stop.Interp) :
    ReturnsInHanded {} Tryz.checked os 5 .any ((OpenSpec.ofChange Rows.fnExactSetsOfSpec).preRow enc Tryz.prog Tryz.f5 Rows.fnExactSetsOfRow.domain false Rows.fnExactSetsOfRow.laid) (((OpenSpec.ofChange Rows.fnExactSetsOfSpec).at F).post enc Tryz.prog Tryz.f5 false true false false) := by
  obtain ⟨places, hx⟩ := reads os enc
  refine returnsInHanded_of_row (C := Tryz.checked) (s := OpenSpec.ofChange Rows.fnExactSetsOfSpec) own started (by kernel_rfl) Tryz.func5
    (witness_row_at (enc := enc) (C := Tryz.checked) false (laidWorld os) #[.slice none 0 0] rfl (by kernel_rfl) (by kernel_rfl) (by kernel_rfl)
      (OpenSpec.preRow_of_cond 8 hx (by kernel_rfl) (fun k hk => by cases hk) (by kernel_rfl) (laid_met os))) ?_
  intro W base args ds gs before hval hW _ _ hsz hL _ _
  exact contract H enc W base args ds gs before hval hW hsz hL
theorem said : Rows.FnExactSetsOfSaid :=
  OpenClaim.holds_of_cond 5 Tryz.f5 rfl rfl rfl rfl rfl rfl rfl ⟨rfl, rfl, rfl, rfl, rfl⟩ rfl rfl rfl rfl rfl (by kernel_rfl) Tryz.func5 (by kernel_rfl)
    (of_decide_eq_true (by kernel_rfl)) (by unfold Func.isWrapper; first | (rw [if_pos (by decide +kernel)]; kernel_rfl) | (rw [if_neg (by decide +kernel)]; exact ⟨rfl, rfl⟩))
    (fun os started H enc _ F => by rw [OpenClaim.pre_eq_preRow]; exact lifted os started H enc F)
theorem wants : Tryz.f5.params.toList.all (fun t => Tryz.prog.wantsStandIn t == false) = true := by kernel_rfl
theorem plain (f : FuncId) (fn : Func) (hf : Tryz.pinned.checked.prog.funcNamed "loop.example/g00300/laws.FnExactSetsOf" = some f) (hfn : Tryz.pinned.checked.prog.funcs[f]? = some fn) :
    true = Tryz.pinned.checked.prog.looks [] ∧ ∀ (j : Nat) t, fn.params[j]? = some t → Tryz.pinned.checked.prog.wantsStandIn t = false := by
  obtain rfl : f = 5 := Option.some.inj ((show Tryz.prog.funcNamed "loop.example/g00300/laws.FnExactSetsOf" = some 5 by kernel_rfl).symm.trans hf) |>.symm
  obtain rfl : fn = Tryz.f5 := (Option.some.inj (Tryz.func5.symm.trans hfn)).symm
  refine ⟨by kernel_rfl, fun j t ht => ?_⟩
  exact eq_of_beq (List.all_eq_true.1 wants t (Array.mem_toList_iff.2 (Array.mem_of_getElem? ht)))
theorem proved : Rows.FnExactSetsOfCardSaid :=
  Claim7.holds_tied_plain_at .later [] _ _ _ _ said (fun _ h => by cases h) (by kernel_rfl) (fun _ h => by cases h) fnExactSetsOf_row_tie rfl ⟨rfl, rfl⟩ (by kernel_rfl) rfl plain (by kernel_rfl)
#print axioms proved
end Go.Proofs.YtiegkjimpclmaaaGreatDoor.fnExactSetsOf
namespace Go.Proofs.YtiegkjimpclmaaaGreatDoor
theorem fnExactSetsOf_holds : Rows.FnExactSetsOfCardSaid := fnExactSetsOf.proved
end Go.Proofs.YtiegkjimpclmaaaGreatDoor
