/- FnExactRuleOf: part 18 of 26 of my texts for this claim, joined; the theorem stands in the last. Conditions: none beyond the statement's. -/
import Derived.Test.YtkpkfallgjdkmaaGreatDoorMFnExactRuleOfx14
import Derived.Test.YtkpkfallgjdkmaaGreatDoorMFnExactRuleOfx16
import Derived.Test.YtkpkfallgjdkmaaGreatDoorMFnExactRuleOfx6
import Derived.Test.YtkpkfallgjdkmaaGreatDoorMFnExactRuleOfx13
import Derived.Test.YtkpkfallgjdkmaaGreatDoorMFnExactRuleOfx2
import Derived.Test.YtkpkfallgjdkmaaGreatDoorMFnExactRuleOfx3
namespace Go.Proofs.YtkpkfallgjdkmaaGreatDoor.Pure
open Go.RowKit Go.Proofs.YtkpkfallgjdkmaaGreatDoor.P Go.Proofs.YtkpkfallgjdkmaaGreatDoorW.PrintWords Go.Proofs.YtkpkfallgjdkmaaGreatDoorW.PrintLast
set_option linter.unusedVariables false
set_option linter.unusedSimpArgs false
theorem nb_rd (l : List ByteArray) (i : Nat) (h : i < l.length) : rdOf ByteArray.empty l (i : Int) = l[i] := by
  unfold rdOf
  rw [Int.toNat_natCast, List.getD_eq_getElem?_getD, List.getElem?_eq_getElem h]
  rfl
theorem nb_loops (parts : List ByteArray) (hp : ∀ p ∈ parts, p.size ≤ 1000) (hl : parts.length ≤ 1000) : ∀ (m i : Nat) (acc : ByteArray), i + m = parts.length → acc.size + m * 1024 < 1099511627776 →
    ∃ r, Ev (fun k => impl_labelBytes.l0 k acc parts (parts.length : Int) (i : Int)) r ∧ Ev (fun k => spec_l2Bytes.l0 k acc parts (parts.length : Int) (i : Int)) (r ++ (⟨#[0]⟩ : ByteArray)) ∧ r.size = acc.size + ((parts.drop i).map fun p => 1 + p.size).sum ∧ r.size < 1099511627776
  | 0, i, acc, him, ha => by
    refine ⟨acc, Ev.step (f := fun _ => some acc) (fun k => ?_) (Ev.now _), Ev.step (f := fun _ => some (acc ++ (⟨#[0]⟩ : ByteArray))) (fun k => ?_) (Ev.now _), by rw [List.drop_of_length_le (by omega)]; rfl, by omega⟩
    · show impl_labelBytes.l0 (k + 1) acc parts (parts.length : Int) (i : Int) = _
      unfold impl_labelBytes.l0
      rw [if_neg (by omega)]
    · show spec_l2Bytes.l0 (k + 1) acc parts (parts.length : Int) (i : Int) = _
      unfold spec_l2Bytes.l0
      rw [if_neg (by omega), if_pos (by omega)]
  | m + 1, i, acc, him, ha => by
    have hi : i < parts.length := by omega
    have hs : ∀ v : Int, (strOfNums [v]).size = 1 := fun v => by rw [strOfNums_size]; rfl
    have hpi := hp _ (List.getElem_mem hi)
    obtain ⟨r, h1, h2, h3, h4⟩ := nb_loops parts hp hl m (i + 1) (acc ++ (strOfNums [((parts[i].size : Int)) % 256] ++ parts[i])) (by omega) (by
      rw [ByteArray.size_append, ByteArray.size_append, hs]; omega)
    refine ⟨r, Ev.step (fun k => ?_) h1, Ev.step (fun k => ?_) h2, ?_, h4⟩
    · show impl_labelBytes.l0 (k + 1) acc parts (parts.length : Int) (i : Int) = _
      conv => lhs; unfold impl_labelBytes.l0
      rw [if_pos (by omega), if_pos (by omega), if_pos (by omega), nb_rd _ _ hi, Option.bind_some, if_pos (by rw [hs]; omega), if_pos (by rw [ByteArray.size_append, hs]; omega), w64n (by omega)]
    · show spec_l2Bytes.l0 (k + 1) acc parts (parts.length : Int) (i : Int) = _
      conv => lhs; unfold spec_l2Bytes.l0
      rw [if_pos (by omega), if_pos (by omega), if_pos (by omega), nb_rd _ _ hi, Option.bind_some, if_pos (by rw [hs]; omega), if_pos (by rw [ByteArray.size_append, hs]; omega), w64n (by omega)]
    · rw [h3, ByteArray.size_append, ByteArray.size_append, hs, List.drop_eq_getElem_cons hi, List.map_cons, List.sum_cons]
      omega
theorem split_sum : ∀ l : List UInt8, ((splitL 46 l).map fun p => 1 + p.length).sum = l.length + 1
  | [] => rfl
  | x :: xs => by
    have ih := split_sum xs
    unfold splitL
    split
    · rw [List.map_cons, List.sum_cons, ih, List.length_cons, List.length_nil]
      omega
    · cases hs : splitL 46 xs with
      | nil => exact absurd hs (splitL_ne 46 xs)
      | cons p ps =>
        rw [hs, List.map_cons, List.sum_cons] at ih
        rw [List.map_cons, List.sum_cons, List.length_cons, List.length_cons]
        omega
theorem nb_both (s : ByteArray) (h : goodL s.data.toList = true) : ∃ r, Ev (fun k => impl_labelBytes.f k s) r ∧ Ev (fun k => spec_l2Bytes.f k s) (r ++ (⟨#[0]⟩ : ByteArray)) ∧ r.size = (if s.size = 0 then 0 else s.size + 1) := by
  have hg := good_size h
  have hss := size_len s
  obtain ⟨q, e1, e2, e3⟩ := labels_ev s (by omega)
  have e3 := e3 (e2.trans h)
  have hlen : (labelsL s.data.toList).length ≤ 61 := by
    unfold labelsL
    split
    · simp
    · have := splitL_len 46 s.data.toList; omega
  obtain ⟨r, h1, h2, h3, h4⟩ := nb_loops ((labelsL s.data.toList).map mkB) (by
    intro p hp
    obtain ⟨x, hx, rfl⟩ := List.mem_map.1 hp
    rw [mkB_size]
    unfold labelsL at hx
    split at hx
    · cases hx
    · have := splitL_part 46 _ x hx; omega) (by rw [List.length_map]; omega) _ 0 (⟨#[]⟩ : ByteArray) (Nat.zero_add _) (by rw [List.length_map]; show 0 + _ < _; omega)
  refine ⟨r, ?_, ?_, ?_⟩
  · refine Ev.congr (f := fun k => impl_labelBytes.l0 k (⟨#[]⟩ : ByteArray) ((labelsL s.data.toList).map mkB) (((labelsL s.data.toList).map mkB).length : Int) 0) (fun k => ?_) h1
    unfold impl_labelBytes.f
    rw [labelsOf_eq s (by omega)]
    rfl
  · refine Ev.congr (f := fun k => (spec_l1Labels.f k s).bind fun bt137 => (spec_l2Bytes.l0 k (⟨#[]⟩ : ByteArray) bt137.1 (bt137.1.length : Int) 0)) (fun k => rfl) (Ev.bind e1 ?_)
    rw [e3]
    exact h2
  · rw [h3, List.drop_zero, List.map_map]
    have e : ((fun p : ByteArray => 1 + p.size) ∘ mkB) = fun p => 1 + p.length := by funext p; show 1 + (mkB p).size = _; rw [mkB_size]
    rw [e]
    unfold labelsL
    by_cases h0 : s.data.toList = []
    · rw [if_pos h0, if_pos (by rw [hss, h0]; rfl)]; rfl
    · rw [if_neg h0, if_neg (by rw [hss]; have := List.length_pos_iff.2 h0; omega), split_sum, ← hss]
      show 0 + (s.size + 1) = _
      omega
end Go.Proofs.YtkpkfallgjdkmaaGreatDoor.Pure
namespace Go.Proofs.YtkpkfallgjdkmaaGreatDoor.P
open Go.RowKit Go.Proofs.YtkpkfallgjdkmaaGreatDoorW.PrintWords Go.Proofs.YtkpkfallgjdkmaaGreatDoorW.PrintLast
set_option linter.unusedVariables false
set_option maxHeartbeats 2000000 in
theorem index_byte (A : Option Addr) (c : Nat) (xs : List Int) (g : Nat) (cb : Array Value) (p : Int → Bool) (w : World) (hr : Kd.C (Kd.int .u8) w A xs.length xs)
    (eg : ∀ args w, (callFunc g args).run Tryz.prog w = .ok (.enter g args) w) (hp : PredB g cb (.int .u8) p xs w) :
    Calls Tryz.prog 165 #[.slice A xs.length c, .func (.func g) #[] cb] w fun e w' => e = .returned (.int .i64 (idxP p xs 0)) ∧ Below w.heap.size w w' := by
  have hbig : xs.length ≤ 9223372036854775807 := hr.2.1
  go_enter Tryz.func165, Tryz.ntmps165
  go_wp2
  go_loopg [5, 8] xs.length (fun gg _ s8 wr => ∃ kk : Nat, kk ≤ xs.length ∧ xs.length - kk ≤ gg ∧ s8 = .int .i64 kk ∧ Aside0 (Below w.heap.size w wr) ∧ Aside0 (∀ j y, j < kk → xs[j]? = some y → p y = false))
  case atStart => exact ⟨0, Nat.zero_le _, by omega, rfl, ⟨Below.refl _ w⟩, ⟨fun j y hj => absurd hj (Nat.not_lt_zero _)⟩⟩
  case round =>
    obtain ⟨kk, hkk, hg, rfl, BW, AA⟩ := hrel
    by_cases hlt : kk < xs.length
    · have hltz : (kk : Int) < (xs.length : Int) := by omega
      obtain ⟨ad, e0, hx⟩ := Kd.at_int hr (kk : Int) (by omega) hltz
      cases e0
      have l2 := (BW.out.cell (World.block_lt_of_cell? _ _ hx)).trans hx
      clear hx
      rw [Int.toNat_natCast] at l2
      have hmem : xs[kk]? = some (rd xs kk) := by
        rw [List.getElem?_eq_getElem hlt]; simp [rd, List.getElem?_eq_getElem hlt]
      have hcall := hp (rd xs kk) (List.mem_of_getElem? hmem) wr BW.out
      clear hp
      generalize hy : rd xs kk = y at l2 hcall hmem
      have B := Aside0.mk hmem
      clear hmem hy
      have hkn : ((kk : Int)).toNat = kk := by omega
      cases hq : p y with
      | true =>
        rw [hq] at hcall
        go_wp2_with (go_at_fn g; refine hcall.mono ?_; rintro e w' ⟨rfl, hb'⟩)
        go_ret
        refine ⟨?_, below_then BW.out BW.out.size hb'⟩
        rw [idxP_hit p xs 0 kk y B.out hq AA.out]
        simp
      | false =>
        rw [hq] at hcall
        go_wp2_with (go_at_fn g; refine hcall.mono ?_; rintro e w' ⟨rfl, hb'⟩)
        go_roundg (xs.length - (kk + 1))
        case measure => omega
        case rel =>
          refine ⟨kk + 1, by omega, by omega, by go_num, ⟨below_then BW.out BW.out.size hb'⟩, ⟨fun j z hj hz => ?_⟩⟩
          by_cases e : j = kk
          · subst e
            rw [B.out] at hz
            cases hz
            exact hq
          · exact AA.out j z (by omega) hz
    · have hltz : ¬ (kk : Int) < (xs.length : Int) := by omega
      have hm : idxP p xs 0 = -1 := idxP_miss p xs 0 (fun y hy => by obtain ⟨j, hj, e⟩ := List.mem_iff_getElem.1 hy; exact AA.out j y (by omega) (by rw [List.getElem?_eq_getElem hj, e]))
      have HM := Aside0.mk hm
      clear hm
      go_wp2
      go_ret
      exact ⟨by rw [HM.out]; rfl, BW.out⟩
theorem contains_byte (A : Option Addr) (c : Nat) (xs : List Int) (g : Nat) (cb : Array Value) (p : Int → Bool) (w : World) (hr : Kd.C (Kd.int .u8) w A xs.length xs)
    (eg : ∀ args w, (callFunc g args).run Tryz.prog w = .ok (.enter g args) w) (hp : PredB g cb (.int .u8) p xs w) :
    Calls Tryz.prog 147 #[.slice A xs.length c, .func (.func g) #[] cb] w fun e w' => e = .returned (.bool (xs.any p)) ∧ Below w.heap.size w w' := by
  rw [← idxP_any p xs 0 (by omega)]
  go_enter Tryz.func147, Tryz.ntmps147
  go_wp2_with (go_at_call 165; refine (index_byte A c xs g cb p _ hr eg hp).mono ?_; rintro e w' ⟨rfl, hb'⟩)
  go_ret
  exact ⟨rfl, hb'⟩
end Go.Proofs.YtkpkfallgjdkmaaGreatDoor.P
namespace Go.Proofs.YtkpkfallgjdkmaaGreatDoor.P
open Go.RowKit Go.Proofs.YtkpkfallgjdkmaaGreatDoorW.PrintWords Go.Proofs.YtkpkfallgjdkmaaGreatDoorW.PrintLast Go.Proofs.YtkpkfallgjdkmaaGreatDoorW.PrintMore
attribute [local go_sem] max2_int min2_int max_two min_two max_three min_three max_four min_four
set_option linter.unusedVariables false
set_option linter.unusedSimpArgs false
def strings_Index.f (a0 : ByteArray) (a1 : ByteArray) : Option (Int) := (internal_stringslite_Index.f a0 a1).bind fun t191 => (some t191)
set_option maxHeartbeats 8000000 in
set_option maxRecDepth 100000 in
theorem strings_Index.calls (a0 : ByteArray) (a1 : ByteArray) (r : Int) (w : World) (h : strings_Index.f a0 a1 = some r) :
    Calls Tryz.prog 126 #[.string a0, .string a1] w fun e w' => e = .returned (.int .i64 r) ∧ Drawn0 w w' := by
  have H : ((internal_stringslite_Index.f a0 a1).bind fun t191 => (some t191)) = some r := h
  clear h
  replace H := Option.bind_eq_some_iff.mp H
  obtain ⟨t191, A30, H⟩ := H
  replace H : (some t191) = some r := H
  have A3 := a0_ A30
  clear A30
  obtain rfl := Option.some.inj H
  go_enter Tryz.func126, Tryz.ntmps126
  go_wp2_with (first | ((with_reducible refine gate_callee (f := 149) rfl ?_); refine goesS_ (some 7) Tryz.func149 #[.string a0, .string a1] ?_; (with_reducible refine (internal_stringslite_Index.calls a0 a1 t191 _ A3.out).mono ?_); rintro e w' ⟨rfl, ⟨nd, rfl⟩⟩; refine ⟨_, rfl, ?_⟩))
  go_ret
  exact ⟨by first | rfl | (simp; done) | (simp [*]; done), by repeat (first | exact Drawn0.refl _ | apply Drawn0.step)⟩
def strings_Contains.f (a0 : ByteArray) (a1 : ByteArray) : Option (Bool) := (strings_Index.f a0 a1).bind fun t497 => (some (decide (t497 ≥ 0)))
set_option maxHeartbeats 8000000 in
set_option maxRecDepth 100000 in
theorem strings_Contains.calls (a0 : ByteArray) (a1 : ByteArray) (r : Bool) (w : World) (h : strings_Contains.f a0 a1 = some r) :
    Calls Tryz.prog 113 #[.string a0, .string a1] w fun e w' => e = .returned (.bool r) ∧ Drawn0 w w' := by
  have H : ((strings_Index.f a0 a1).bind fun t497 => (some (decide (t497 ≥ 0)))) = some r := h
  clear h
  replace H := Option.bind_eq_some_iff.mp H
  obtain ⟨t497, A30, H⟩ := H
  replace H : (some (decide (t497 ≥ 0))) = some r := H
  have A3 := a0_ A30
  clear A30
  obtain rfl := Option.some.inj H
  go_enter Tryz.func113, Tryz.ntmps113
  go_wp2_with (first | ((with_reducible refine gate_callee (f := 126) rfl ?_); refine goesS_ (some 7) Tryz.func126 #[.string a0, .string a1] ?_; (with_reducible refine (strings_Index.calls a0 a1 t497 _ A3.out).mono ?_); rintro e w' ⟨rfl, ⟨nd, rfl⟩⟩; refine ⟨_, rfl, ?_⟩))
  go_ret
  exact ⟨by first | rfl | (simp; done) | (simp [*]; done), by repeat (first | exact Drawn0.refl _ | apply Drawn0.step)⟩
def impl_isTarget.f (a0 : ByteArray) : Option (Bool) := if a0.toList = ([] : List UInt8) then (some false) else ((impl_GoodName.f a0).bind fun t536 => (if t536 = true then ((strings_Contains.f a0 (⟨#[42]⟩ : ByteArray)).bind fun t537 => (some (!t537))) else (some false)))
set_option maxHeartbeats 8000000 in
set_option maxRecDepth 100000 in
theorem impl_isTarget.calls (a0 : ByteArray) (r : Bool) (w : World) (h : impl_isTarget.f a0 = some r) :
    Calls Tryz.prog 144 #[.string a0] w fun e w' => e = .returned (.bool r) ∧ Below w.heap.size w w' := by
  have HB := a0_ (Below.refl w.heap.size w)
  have H : (if a0.toList = ([] : List UInt8) then (some false) else ((impl_GoodName.f a0).bind fun t536 => (if t536 = true then ((strings_Contains.f a0 (⟨#[42]⟩ : ByteArray)).bind fun t537 => (some (!t537))) else (some false)))) = some r := h
  clear h
  by_cases c2 : a0.toList = ([] : List UInt8)
  · rw [if_pos c2] at H
    have c2b0 : (a0.toList == ([] : List UInt8)) = true := beq_iff_eq.mpr c2
    have c2b1 : (a0.toList != ([] : List UInt8)) = false := bne_eq_false_iff_eq.mpr c2
    clear c2
    obtain rfl := Option.some.inj H
    go_enter Tryz.func144, Tryz.ntmps144
    go_wp2
    go_ret
    exact ⟨by first | rfl | (simp [errW_none, errW_some] <;> rfl) | (simp [*, errW_none, errW_some] <;> rfl), by repeat (first | (with_reducible first | exact HB.out | apply below_alloc | apply pw_below_drewN | apply below_drew1) | exact HB.out)⟩
  · rw [if_neg c2] at H
    have c2b0 : (a0.toList == ([] : List UInt8)) = false := beq_eq_false_iff_ne.mpr c2
    have c2b1 : (a0.toList != ([] : List UInt8)) = true := bne_iff_ne.mpr c2
    replace H := Option.bind_eq_some_iff.mp H
    obtain ⟨t536, A30, H⟩ := H
    replace H : (if t536 = true then ((strings_Contains.f a0 (⟨#[42]⟩ : ByteArray)).bind fun t537 => (some (!t537))) else (some false)) = some r := H
    have A3 := a0_ A30
    clear A30
    by_cases c4 : t536 = true
    · subst c4
      have H1 : ((strings_Contains.f a0 (⟨#[42]⟩ : ByteArray)).bind fun t537 => (some (!t537))) = some r := by rw [if_pos rfl] at H; exact H
      clear H
      have H := H1
      clear H1
      replace H := Option.bind_eq_some_iff.mp H
      obtain ⟨t537, A50, H⟩ := H
      replace H : (some (!t537)) = some r := H
      have A5 := a0_ A50
      clear A50
      obtain rfl := Option.some.inj H
      go_enter Tryz.func144, Tryz.ntmps144
      go_wp2_with (first | (go_at_call 72; (with_reducible refine (impl_GoodName.calls a0 true _ A3.out).mono ?_); rintro e w6 ⟨rfl, hb⟩; replace HB := a0_ (below_step bq0_ hb); (try clear hb); (try clear hb2); (try clear hk); (try clear hi)) | (go_at_call 113; (with_reducible refine (strings_Contains.calls a0 (⟨#[42]⟩ : ByteArray) t537 _ A5.out).mono ?_); rintro e w' ⟨rfl, ⟨nd, rfl⟩⟩))
      go_ret
      exact ⟨by first | rfl | (simp [errW_none, errW_some] <;> rfl) | (simp [*, errW_none, errW_some] <;> rfl), by repeat (first | (with_reducible first | exact HB.out | apply below_alloc | apply pw_below_drewN | apply below_drew1) | exact HB.out)⟩
    · replace c4 := Bool.eq_false_iff.mpr c4
      subst c4
      have H1 : (some false) = some r := by rw [if_neg (show ¬ (false = true) by decide)] at H; exact H
      clear H
      have H := H1
      clear H1
      obtain rfl := Option.some.inj H
      go_enter Tryz.func144, Tryz.ntmps144
      go_wp2_with (first | (go_at_call 72; (with_reducible refine (impl_GoodName.calls a0 false _ A3.out).mono ?_); rintro e w7 ⟨rfl, hb⟩; replace HB := a0_ (below_step bq0_ hb); (try clear hb); (try clear hb2); (try clear hk); (try clear hi)))
      go_ret
      exact ⟨by first | rfl | (simp [errW_none, errW_some] <;> rfl) | (simp [*, errW_none, errW_some] <;> rfl), by repeat (first | (with_reducible first | exact HB.out | apply below_alloc | apply pw_below_drewN | apply below_drew1) | exact HB.out)⟩
def stringslite_Cut.f (a0 : ByteArray) (a1 : ByteArray) : Option (ByteArray × ByteArray × Bool) := (internal_stringslite_Index.f a0 a1).bind fun t545 => (if t545 ≥ 0 then (if 0 ≤ t545 then (if t545 ≤ (a0.size : Int) then (if 0 ≤ (wrap64 (t545 + (a1.size : Int))) then (if (wrap64 (t545 + (a1.size : Int))) ≤ (a0.size : Int) then (some (a0.extract 0 (t545 : Int).toNat, a0.extract ((wrap64 (t545 + (a1.size : Int))) : Int).toNat a0.size, true)) else (none)) else (none)) else (none)) else (none)) else (some (a0, (⟨#[]⟩ : ByteArray), false)))
set_option maxHeartbeats 8000000 in
set_option maxRecDepth 100000 in
theorem stringslite_Cut.calls (a0 : ByteArray) (a1 : ByteArray) (r1 : ByteArray) (r2 : ByteArray) (r3 : Bool) (w : World) (h : stringslite_Cut.f a0 a1 = some (r1, r2, r3)) :
    Calls Tryz.prog 164 #[.string a0, .string a1] w fun e w' => e = .returned (.tuple #[.string r1, .string r2, .bool r3]) ∧ Drawn0 w w' := by
  have H : ((internal_stringslite_Index.f a0 a1).bind fun t545 => (if t545 ≥ 0 then (if 0 ≤ t545 then (if t545 ≤ (a0.size : Int) then (if 0 ≤ (wrap64 (t545 + (a1.size : Int))) then (if (wrap64 (t545 + (a1.size : Int))) ≤ (a0.size : Int) then (some (a0.extract 0 (t545 : Int).toNat, a0.extract ((wrap64 (t545 + (a1.size : Int))) : Int).toNat a0.size, true)) else (none)) else (none)) else (none)) else (none)) else (some (a0, (⟨#[]⟩ : ByteArray), false)))) = some (r1, r2, r3) := h
  clear h
  replace H := Option.bind_eq_some_iff.mp H
  obtain ⟨t545, A30, H⟩ := H
  replace H : (if t545 ≥ 0 then (if 0 ≤ t545 then (if t545 ≤ (a0.size : Int) then (if 0 ≤ (wrap64 (t545 + (a1.size : Int))) then (if (wrap64 (t545 + (a1.size : Int))) ≤ (a0.size : Int) then (some (a0.extract 0 (t545 : Int).toNat, a0.extract ((wrap64 (t545 + (a1.size : Int))) : Int).toNat a0.size, true)) else (none)) else (none)) else (none)) else (none)) else (some (a0, (⟨#[]⟩ : ByteArray), false))) = some (r1, r2, r3) := H
  have A3 := a0_ A30
  clear A30
  by_cases c4 : t545 ≥ 0
  · rw [if_pos c4] at H
    have c4b0 : decide (0 ≤ t545) = true := decide_eq_true c4
    clear c4
    by_cases c5 : 0 ≤ t545
    · rw [if_pos c5] at H
      have c5b0 := eq_true c5
      have c5b1 : decide (0 ≤ t545) = true := decide_eq_true c5
      clear c5
      by_cases c6 : t545 ≤ (a0.size : Int)
      · rw [if_pos c6] at H
        have c6b0 := eq_true c6
        have c6b1 : decide (t545 ≤ (a0.size : Int)) = true := decide_eq_true c6
        clear c6
        obtain ⟨ji7, hji7⟩ : ∃ j_ : Int, (wrap64 (t545 + (a1.size : Int))) = j_ := ⟨_, rfl⟩
        replace H : (if 0 ≤ (ji7) then (if (ji7) ≤ (a0.size : Int) then (some (a0.extract 0 (t545 : Int).toNat, a0.extract ((ji7) : Int).toNat a0.size, true)) else (none)) else (none)) = some (r1, r2, r3) := by first | (rw [hji7] at H; exact H) | (simp only [hji7] at H ⊢; exact H)
        (try rw [hji7] at A3)
        have hji7w : (IntKind.i64.wrap (t545 + (a1.size : Int))) = ji7 := (i64_w _).trans hji7
        by_cases c8 : 0 ≤ (ji7)
        · rw [if_pos c8] at H
          have c8b0 := eq_true c8
          have c8b1 : decide (0 ≤ (ji7)) = true := decide_eq_true c8
          clear c8
          by_cases c9 : (ji7) ≤ (a0.size : Int)
          · rw [if_pos c9] at H
            have c9b0 := eq_true c9
            have c9b1 : decide ((ji7) ≤ (a0.size : Int)) = true := decide_eq_true c9
            clear c9
            simp only [Option.some.injEq, Prod.mk.injEq] at H
            obtain ⟨rfl, rfl, rfl⟩ := H
            go_enter Tryz.func164, Tryz.ntmps164
            go_wp2_with (first | (go_at_call 149; (with_reducible refine (internal_stringslite_Index.calls a0 a1 t545 _ A3.out).mono ?_); rintro e w' ⟨rfl, ⟨nd, rfl⟩⟩; (try first | exact ⟨rfl, _, World.drewN_drewN _ _ _⟩ | exact ⟨rfl, _, Eq.trans (World.drewN_drewN _ _ _) (congrArg (World.drewN _) (Nat.add_assoc _ _ _))⟩)))
            repeat (go_quiet (first | (go_at_call 149; (with_reducible refine (internal_stringslite_Index.calls a0 a1 t545 _ A3.out).mono ?_); rintro e w' ⟨rfl, ⟨nd, rfl⟩⟩; (try first | exact ⟨rfl, _, World.drewN_drewN _ _ _⟩ | exact ⟨rfl, _, Eq.trans (World.drewN_drewN _ _ _) (congrArg (World.drewN _) (Nat.add_assoc _ _ _))⟩))); try go_wp2_with (first | (go_at_call 149; (with_reducible refine (internal_stringslite_Index.calls a0 a1 t545 _ A3.out).mono ?_); rintro e w' ⟨rfl, ⟨nd, rfl⟩⟩; (try first | exact ⟨rfl, _, World.drewN_drewN _ _ _⟩ | exact ⟨rfl, _, Eq.trans (World.drewN_drewN _ _ _) (congrArg (World.drewN _) (Nat.add_assoc _ _ _))⟩))))
            go_ret3
            exact ⟨by first | rfl | (simp; done) | (simp only [← hji7] <;> (first | rfl | simp)) | (simp [*]; done), by repeat (first | exact Drawn0.refl _ | apply Drawn0.step)⟩
          · rw [if_neg c9] at H
            exact absurd H (by simp)
        · rw [if_neg c8] at H
          exact absurd H (by simp)
      · rw [if_neg c6] at H
        exact absurd H (by simp)
    · rw [if_neg c5] at H
      exact absurd H (by simp)
  · rw [if_neg c4] at H
    have c4b0 : decide (0 ≤ t545) = false := decide_eq_false c4
    clear c4
    simp only [Option.some.injEq, Prod.mk.injEq] at H
    obtain ⟨rfl, rfl, rfl⟩ := H
    go_enter Tryz.func164, Tryz.ntmps164
    go_wp2_with (first | (go_at_call 149; (with_reducible refine (internal_stringslite_Index.calls a0 a1 t545 _ A3.out).mono ?_); rintro e w' ⟨rfl, ⟨nd, rfl⟩⟩; (try first | exact ⟨rfl, _, World.drewN_drewN _ _ _⟩ | exact ⟨rfl, _, Eq.trans (World.drewN_drewN _ _ _) (congrArg (World.drewN _) (Nat.add_assoc _ _ _))⟩)))
    repeat (go_quiet (first | (go_at_call 149; (with_reducible refine (internal_stringslite_Index.calls a0 a1 t545 _ A3.out).mono ?_); rintro e w' ⟨rfl, ⟨nd, rfl⟩⟩; (try first | exact ⟨rfl, _, World.drewN_drewN _ _ _⟩ | exact ⟨rfl, _, Eq.trans (World.drewN_drewN _ _ _) (congrArg (World.drewN _) (Nat.add_assoc _ _ _))⟩))); try go_wp2_with (first | (go_at_call 149; (with_reducible refine (internal_stringslite_Index.calls a0 a1 t545 _ A3.out).mono ?_); rintro e w' ⟨rfl, ⟨nd, rfl⟩⟩; (try first | exact ⟨rfl, _, World.drewN_drewN _ _ _⟩ | exact ⟨rfl, _, Eq.trans (World.drewN_drewN _ _ _) (congrArg (World.drewN _) (Nat.add_assoc _ _ _))⟩))))
    go_ret3
    exact ⟨by first | rfl | (simp; done) | (simp [*]; done), by repeat (first | exact Drawn0.refl _ | apply Drawn0.step)⟩
def strings_Cut.f (a0 : ByteArray) (a1 : ByteArray) : Option (ByteArray × ByteArray × Bool) := (stringslite_Cut.f a0 a1).bind fun bt546 => (some (bt546.1, bt546.2.1, bt546.2.2))
set_option maxHeartbeats 8000000 in
set_option maxRecDepth 100000 in
theorem strings_Cut.calls (a0 : ByteArray) (a1 : ByteArray) (r1 : ByteArray) (r2 : ByteArray) (r3 : Bool) (w : World) (h : strings_Cut.f a0 a1 = some (r1, r2, r3)) :
    Calls Tryz.prog 146 #[.string a0, .string a1] w fun e w' => e = .returned (.tuple #[.string r1, .string r2, .bool r3]) ∧ Drawn0 w w' := by
  have H : ((stringslite_Cut.f a0 a1).bind fun bt546 => (some (bt546.1, bt546.2.1, bt546.2.2))) = some (r1, r2, r3) := h
  clear h
  replace H := Option.bind_eq_some_iff.mp H
  obtain ⟨⟨t546, t547, t548⟩, A30, H⟩ := H
  replace H : (some (t546, t547, t548)) = some (r1, r2, r3) := H
  have A3 := a0_ A30
  clear A30
  simp only [Option.some.injEq, Prod.mk.injEq] at H
  obtain ⟨rfl, rfl, rfl⟩ := H
  go_enter Tryz.func146, Tryz.ntmps146
  go_wp2_with (first | ((with_reducible refine gate_callee (f := 164) rfl ?_); refine goesS_ (some 9) Tryz.func164 #[.string a0, .string a1] ?_; (with_reducible refine (stringslite_Cut.calls a0 a1 t546 t547 t548 _ A3.out).mono ?_); rintro e w' ⟨rfl, ⟨nd, rfl⟩⟩; refine ⟨_, rfl, ?_⟩))
  go_ret3
  exact ⟨by first | rfl | (simp; done) | (simp [*]; done), by repeat (first | exact Drawn0.refl _ | apply Drawn0.step)⟩
def impl_DataBytes_1.f (a0 : Int) : Option (Bool) := if a0 < 32 then (some true) else (some (decide (a0 > 126)))
set_option maxHeartbeats 8000000 in
set_option maxRecDepth 100000 in
theorem impl_DataBytes_1.calls (a0 : Int) (r : Bool) (w : World) (h : impl_DataBytes_1.f a0 = some r) :
    Calls Tryz.prog 148 #[.int .u8 a0] w fun e w' => e = .returned (.bool r) ∧ Drawn0 w w' := by
  have H : (if a0 < 32 then (some true) else (some (decide (a0 > 126)))) = some r := h
  clear h
  by_cases c2 : a0 < 32
  · rw [if_pos c2] at H
    have c2b0 : decide (a0 < 32) = true := decide_eq_true c2
    clear c2
    obtain rfl := Option.some.inj H
    go_enter Tryz.func148, Tryz.ntmps148
    go_wp2
    go_ret
    exact ⟨by first | rfl | (simp; done) | (simp [*]; done), by repeat (first | exact Drawn0.refl _ | apply Drawn0.step)⟩
  · rw [if_neg c2] at H
    have c2b0 : decide (a0 < 32) = false := decide_eq_false c2
    clear c2
    obtain rfl := Option.some.inj H
    go_enter Tryz.func148, Tryz.ntmps148
    go_wp2
    go_ret
    exact ⟨by first | rfl | (simp; done) | (simp [*]; done), by repeat (first | exact Drawn0.refl _ | apply Drawn0.step)⟩
end Go.Proofs.YtkpkfallgjdkmaaGreatDoor.P
namespace Go.Proofs.YtkpkfallgjdkmaaGreatDoor.P
open Go.RowKit Go.Proofs.YtkpkfallgjdkmaaGreatDoorW.PrintWords Go.Proofs.YtkpkfallgjdkmaaGreatDoorW.PrintLast Go.Proofs.YtkpkfallgjdkmaaGreatDoorW.PrintMore
set_option linter.unusedVariables false
set_option linter.unusedSimpArgs false
def badD : ByteArray × Bool := ((⟨#[]⟩ : ByteArray), false)
def impl_DataBytes.l0 : Nat → List ByteArray → ByteArray → Int → Option (ByteArray × Bool)
  | 0, _, _, _ => none
  | k + 1, parts, out, i => if i < (parts.length : Int) then (if 0 ≤ i then ((impl_numberIn.f (rdOf ByteArray.empty parts i) 255).bind fun b => (if b.2 = true then (if (parts.length : Int) = 4 then ((impl_big.f k b.1 1).bind fun t => (if out.size + t.size ≤ 9223372036854775807 then impl_DataBytes.l0 k parts (out ++ t) (wrap64 (i + 1)) else none)) else some badD) else some badD)) else none) else some (out, true)
def dataTxt (k : Nat) (data : ByteArray) : Option (ByteArray × Bool) := if (data.size : Int) > 30 then some badD else (if (bytesOf data).any (fun c => decide (c < 32) || decide (c > 126)) = true then some badD else ((impl_big.f k (data.size : Int) 1).bind fun t => (if t.size + data.size ≤ 9223372036854775807 then some (t ++ data, true) else none)))
def dataMx (k : Nat) (data : ByteArray) : Option (ByteArray × Bool) := (strings_Cut.f data (⟨#[32]⟩ : ByteArray)).bind fun c => ((impl_numberIn.f c.1 65535).bind fun b => (if b.2 = true then ((impl_isTarget.f c.2.1).bind fun t => (if t = true then ((impl_big.f k b.1 2).bind fun g => ((impl_labelBytes.f k c.2.1).bind fun lb => (if g.size + lb.size ≤ 9223372036854775807 then (if g.size + lb.size + 1 ≤ 9223372036854775807 then some ((g ++ lb) ++ (⟨#[0]⟩ : ByteArray), true) else none) else none))) else some badD)) else some badD))
def dataNs (k : Nat) (data : ByteArray) : Option (ByteArray × Bool) := (impl_isTarget.f data).bind fun t => (if t = true then ((impl_labelBytes.f k data).bind fun lb => (if lb.size + 1 ≤ 9223372036854775807 then some (lb ++ (⟨#[0]⟩ : ByteArray), true) else none)) else some badD)
def dataSoa (k : Nat) (data : ByteArray) : Option (ByteArray × Bool) := (impl_numberIn.f data 4294967295).bind fun b => (if b.2 = true then ((impl_big.f k b.1 4).bind fun t => some (t, true)) else some badD)
def impl_DataBytes.f (k : Nat) (kind : Int) (data : ByteArray) : Option (ByteArray × Bool) :=
  if kind = 1 then ((strings_Split.f data (⟨#[46]⟩ : ByteArray)).bind fun parts => impl_DataBytes.l0 k parts (⟨#[]⟩ : ByteArray) 0)
  else (if kind = 2 ∨ kind = 5 then dataNs k data else (if kind = 6 then dataSoa k data else (if kind = 15 then dataMx k data else (if kind = 16 then dataTxt k data else some badD))))
set_option maxHeartbeats 4000000 in
theorem data_ns (k : Nat) (kind : Int) (hk : kind = 2 ∨ kind = 5) (a1 : ByteArray) (r1 : ByteArray) (r2 : Bool) (w : World) (h : dataNs k a1 = some (r1, r2)) (hv : Vars w) :
    Calls Tryz.prog 121 #[.int .i64 kind, .string a1] w fun e w' => e = .returned (.tuple #[.string r1, .bool r2]) ∧ Below w.heap.size w w' := by
  unfold dataNs at h
  obtain ⟨t, ht, h⟩ := Option.bind_eq_some_iff.mp h
  have tc := fun W => impl_isTarget.calls a1 t W ht
  have hk1 : (kind == 1) = false := by rcases hk with rfl | rfl <;> rfl
  have hk2 : kind = 2 → (kind == 2) = true := fun e => by rw [e]; rfl
  cases t with
  | false =>
    obtain ⟨rfl, rfl⟩ := Prod.mk.inj (Option.some.inj h)
    clear h ht
    rcases hk with rfl | rfl
    · go_enter Tryz.func121, Tryz.ntmps121
      go_wp2_with (go_at_call 144; refine (tc _).mono ?_; rintro e w1 ⟨rfl, hb⟩)
      go_ret2
      exact ⟨rfl, hb⟩
    · go_enter Tryz.func121, Tryz.ntmps121
      go_wp2_with (go_at_call 144; refine (tc _).mono ?_; rintro e w1 ⟨rfl, hb⟩)
      go_ret2
      exact ⟨rfl, hb⟩
  | true =>
    rw [if_pos rfl] at h
    obtain ⟨lb, hlb, h⟩ := Option.bind_eq_some_iff.mp h
    have lc := fun W => impl_labelBytes.calls k a1 lb W hlb
    by_cases hs : lb.size + 1 ≤ 9223372036854775807
    · rw [if_pos hs] at h
      obtain ⟨rfl, rfl⟩ := Prod.mk.inj (Option.some.inj h)
      have hsa := eq_true hs
      have hsc : (9223372036854775807 < lb.size + 1) = False := eq_false (by omega)
      clear h ht hlb
      rcases hk with rfl | rfl
      · go_enter Tryz.func121, Tryz.ntmps121
        go_wp2_with (first | (go_at_call 144; refine (tc _).mono ?_; rintro e w1 ⟨rfl, hb⟩) | (go_at_call 145; refine (lc _).mono ?_; rintro e w2 ⟨rfl, hb2⟩; have hb3 := below_then hb hb.size hb2))
        go_ret2
        exact ⟨rfl, hb3⟩
      · go_enter Tryz.func121, Tryz.ntmps121
        go_wp2_with (first | (go_at_call 144; refine (tc _).mono ?_; rintro e w1 ⟨rfl, hb⟩) | (go_at_call 145; refine (lc _).mono ?_; rintro e w2 ⟨rfl, hb2⟩; have hb3 := below_then hb hb.size hb2))
        go_ret2
        exact ⟨rfl, hb3⟩
    · rw [if_neg hs] at h; cases h
set_option maxHeartbeats 4000000 in
theorem data_soa (k : Nat) (a1 : ByteArray) (r1 : ByteArray) (r2 : Bool) (w : World) (h : dataSoa k a1 = some (r1, r2)) (hv : Vars w) :
    Calls Tryz.prog 121 #[.int .i64 6, .string a1] w fun e w' => e = .returned (.tuple #[.string r1, .bool r2]) ∧ Below w.heap.size w w' := by
  unfold dataSoa at h
  obtain ⟨⟨b1, b2⟩, hb0, h⟩ := Option.bind_eq_some_iff.mp h
  replace h : (if b2 = true then ((impl_big.f k b1 4).bind fun t => some (t, true)) else some badD) = some (r1, r2) := h
  have nc := fun W (hbW : Below w.heap.size w W) => impl_numberIn.calls a1 4294967295 b1 b2 W hb0 (Vars.below hv hbW)
  clear hv
  cases b2 with
  | false =>
    obtain ⟨rfl, rfl⟩ := Prod.mk.inj (Option.some.inj h)
    clear h
    go_enter Tryz.func121, Tryz.ntmps121
    go_wp2_with (go_at_call 142; refine (nc _ (Below.refl _ _)).mono ?_; rintro e w1 ⟨rfl, hb⟩)
    go_ret2
    exact ⟨rfl, hb⟩
  | true =>
    rw [if_pos rfl] at h
    obtain ⟨g, hg, h⟩ := Option.bind_eq_some_iff.mp h
    have gc := fun W => impl_big.calls k b1 4 g W hg
    obtain ⟨rfl, rfl⟩ := Prod.mk.inj (Option.some.inj h)
    clear h
    go_enter Tryz.func121, Tryz.ntmps121
    go_wp2_with (first | (go_at_call 142; refine (nc _ (Below.refl _ _)).mono ?_; rintro e w1 ⟨rfl, hb⟩) | (go_at_call 143; refine (gc _).mono ?_; rintro e w2 ⟨rfl, hb2⟩; have hb3 := below_then hb hb.size hb2))
    go_ret2
    exact ⟨rfl, hb3⟩
set_option maxHeartbeats 4000000 in
theorem data_mx (k : Nat) (a1 : ByteArray) (r1 : ByteArray) (r2 : Bool) (w : World) (h : dataMx k a1 = some (r1, r2)) (hv : Vars w) :
    Calls Tryz.prog 121 #[.int .i64 15, .string a1] w fun e w' => e = .returned (.tuple #[.string r1, .bool r2]) ∧ Below w.heap.size w w' := by
  unfold dataMx at h
  obtain ⟨⟨c1, c2, c3⟩, hc, h⟩ := Option.bind_eq_some_iff.mp h
  obtain ⟨⟨b1, b2⟩, hb0, h⟩ := Option.bind_eq_some_iff.mp h
  replace h : (if b2 = true then ((impl_isTarget.f c2).bind fun t => (if t = true then ((impl_big.f k b1 2).bind fun g => ((impl_labelBytes.f k c2).bind fun lb => (if g.size + lb.size ≤ 9223372036854775807 then (if g.size + lb.size + 1 ≤ 9223372036854775807 then some ((g ++ lb) ++ (⟨#[0]⟩ : ByteArray), true) else none) else none))) else some badD)) else some badD) = some (r1, r2) := h
  have cutc := fun W => strings_Cut.calls a1 (⟨#[32]⟩ : ByteArray) c1 c2 c3 W hc
  have nc := fun W (hbW : Below w.heap.size w W) => impl_numberIn.calls c1 65535 b1 b2 W hb0 (Vars.below hv hbW)
  clear hv
  cases b2 with
  | false =>
    obtain ⟨rfl, rfl⟩ := Prod.mk.inj (Option.some.inj h)
    clear h
    go_enter Tryz.func121, Tryz.ntmps121
    go_wp2_with (first | (go_at_call 146; refine (cutc _).mono ?_; rintro e w0 ⟨rfl, nd, rfl⟩; have hb0' := pw_below_drewN (Below.refl w.heap.size w) nd) | (go_at_call 142; refine (nc _ hb0').mono ?_; rintro e w1 ⟨rfl, hb⟩; have hb1 := below_then hb0' hb0'.size hb))
    go_ret2
    exact ⟨rfl, hb1⟩
  | true =>
    rw [if_pos rfl] at h
    obtain ⟨t, ht, h⟩ := Option.bind_eq_some_iff.mp h
    have tc := fun W => impl_isTarget.calls c2 t W ht
    cases t with
    | false =>
      obtain ⟨rfl, rfl⟩ := Prod.mk.inj (Option.some.inj h)
      clear h
      go_enter Tryz.func121, Tryz.ntmps121
      go_wp2_with (first | (go_at_call 146; refine (cutc _).mono ?_; rintro e w0 ⟨rfl, nd, rfl⟩; have hb0' := pw_below_drewN (Below.refl w.heap.size w) nd) | (go_at_call 142; refine (nc _ hb0').mono ?_; rintro e w1 ⟨rfl, hb⟩; have hb1 := below_then hb0' hb0'.size hb) | (go_at_call 144; refine (tc _).mono ?_; rintro e w2 ⟨rfl, hbt⟩; have hb2 := below_then hb1 hb1.size hbt))
      go_ret2
      exact ⟨rfl, hb2⟩
    | true =>
      rw [if_pos rfl] at h
      obtain ⟨g, hg, h⟩ := Option.bind_eq_some_iff.mp h
      obtain ⟨lb, hlb, h⟩ := Option.bind_eq_some_iff.mp h
      have gc := fun W => impl_big.calls k b1 2 g W hg
      have lc := fun W => impl_labelBytes.calls k c2 lb W hlb
      by_cases hs : g.size + lb.size ≤ 9223372036854775807
      · rw [if_pos hs] at h
        by_cases hs2 : g.size + lb.size + 1 ≤ 9223372036854775807
        · rw [if_pos hs2] at h
          obtain ⟨rfl, rfl⟩ := Prod.mk.inj (Option.some.inj h)
          have hsa := eq_true hs
          have hsc : (9223372036854775807 < g.size + lb.size) = False := eq_false (by omega)
          have hsa2 := eq_true hs2
          have hsc2 : (9223372036854775807 < g.size + lb.size + 1) = False := eq_false (by omega)
          clear h
          go_enter Tryz.func121, Tryz.ntmps121
          go_wp2_with (first | (go_at_call 146; refine (cutc _).mono ?_; rintro e w0 ⟨rfl, nd, rfl⟩; have hb0' := pw_below_drewN (Below.refl w.heap.size w) nd) | (go_at_call 142; refine (nc _ hb0').mono ?_; rintro e w1 ⟨rfl, hb⟩; have hb1 := below_then hb0' hb0'.size hb) | (go_at_call 144; refine (tc _).mono ?_; rintro e w2 ⟨rfl, hbt⟩; have hb2 := below_then hb1 hb1.size hbt) | (go_at_call 143; refine (gc _).mono ?_; rintro e w3 ⟨rfl, hbg⟩; have hb3 := below_then hb2 hb2.size hbg) | (go_at_call 145; refine (lc _).mono ?_; rintro e w4 ⟨rfl, hbl⟩; have hb4 := below_then hb3 hb3.size hbl))
          go_ret2
          exact ⟨rfl, hb4⟩
        · rw [if_neg hs2] at h; cases h
      · rw [if_neg hs] at h; cases h
set_option maxHeartbeats 4000000 in
theorem data_other (kind : Int) (h1 : kind ≠ 1) (h2 : kind ≠ 2) (h5 : kind ≠ 5) (h6 : kind ≠ 6) (h15 : kind ≠ 15) (h16 : kind ≠ 16) (a1 : ByteArray) (w : World) :
    Calls Tryz.prog 121 #[.int .i64 kind, .string a1] w fun e w' => e = .returned (.tuple #[.string (⟨#[]⟩ : ByteArray), .bool false]) ∧ Below w.heap.size w w' := by
  have g1 : (kind == 1) = false := beq_eq_false_iff_ne.mpr h1
  have g2 : (kind == 2) = false := beq_eq_false_iff_ne.mpr h2
  have g5 : (kind == 5) = false := beq_eq_false_iff_ne.mpr h5
  have g6 : (kind == 6) = false := beq_eq_false_iff_ne.mpr h6
  have g15 : (kind == 15) = false := beq_eq_false_iff_ne.mpr h15
  have g16 : (kind == 16) = false := beq_eq_false_iff_ne.mpr h16
  clear h1 h2 h5 h6 h15 h16
  go_enter Tryz.func121, Tryz.ntmps121
  go_wp2
  go_ret2
  exact ⟨rfl, Below.refl _ _⟩
theorem data_pred (xs : List Int) (W : World) : PredB 148 #[] (.int .u8) (fun c => decide (c < 32) || decide (c > 126)) xs W := by
  intro x hx W' hW
  have e : impl_DataBytes_1.f x = some (decide (x < 32) || decide (x > 126)) := by
    unfold impl_DataBytes_1.f
    by_cases h : x < 32
    · rw [if_pos h, decide_eq_true h]; rfl
    · rw [if_neg h, decide_eq_false h]; rfl
  refine (impl_DataBytes_1.calls x _ W' e).mono ?_
  rintro e w' ⟨he, nd, rfl⟩
  exact ⟨he, pw_below_drewN (Below.refl _ _) nd⟩
theorem bytes_len (s : ByteArray) : (bytesOf s).length = s.size := by
  unfold bytesOf
  simp only [List.length_map]
  exact (size_len s).symm
set_option maxRecDepth 100000 in
set_option maxHeartbeats 4000000 in
theorem data_txt (k : Nat) (a1 : ByteArray) (r1 : ByteArray) (r2 : Bool) (w : World) (h : dataTxt k a1 = some (r1, r2)) :
    Calls Tryz.prog 121 #[.int .i64 16, .string a1] w fun e w' => e = .returned (.tuple #[.string r1, .bool r2]) ∧ Below w.heap.size w w' := by
  unfold dataTxt at h
  by_cases h30 : (a1.size : Int) > 30
  · rw [if_pos h30] at h
    obtain ⟨rfl, rfl⟩ := Prod.mk.inj (Option.some.inj h)
    have e1 : decide (30 < a1.size) = true := decide_eq_true (by omega)
    have e2 : decide ((30 : Int) < (a1.size : Int)) = true := decide_eq_true (by omega)
    clear h
    go_enter Tryz.func121, Tryz.ntmps121
    go_wp2
    go_ret2
    exact ⟨rfl, Below.refl _ _⟩
  · rw [if_neg h30] at h
    have e1 : decide (30 < a1.size) = false := decide_eq_false (by omega)
    have e2 : decide ((30 : Int) < (a1.size : Int)) = false := decide_eq_false (by omega)
    have eg : ∀ args w, (callFunc 148 args).run Tryz.prog w = .ok (.enter 148 args) w := enters_of Tryz.func148 (by kernel_rfl) rfl
    have cc0 := fun W c => contains_byte (some ⟨W.heap.size, 0, none⟩) c (bytesOf a1) 148 #[] (fun c => decide (c < 32) || decide (c > 126)) (Lib.bytesWorld W 5 a1) (by
      have hr := bytes_reads W 5 a1 (by omega)
      have := Kd.C_of_reads (d := (0 : Int)) (h1 := fun _ => rfl) hr
      rw [show (bytesOf a1).length = a1.size by rw [bytes_len]]
      exact this) eg (data_pred _ _)
    have hlen : (bytesOf a1).length = a1.size := by rw [bytes_len]
    rw [hlen] at cc0
    generalize hany : (bytesOf a1).any (fun c => decide (c < 32) || decide (c > 126)) = b at h cc0
    have e30 : (30 < a1.size) = False := eq_false (by omega)
    have kb := fun W => print_bytes (P := Tryz.prog) 9 89 5 Tryz.underlying9 Tryz.underlying89 Tryz.underlying5 a1 W
    cases b with
    | true =>
      rw [if_pos rfl] at h
      obtain ⟨rfl, rfl⟩ := Prod.mk.inj (Option.some.inj h)
      clear h h30 hlen hany
      go_enter Tryz.func121, Tryz.ntmps121
      go_wp2_with (go_at_call 147; refine (cc0 _ _).mono ?_; rintro e w1 ⟨rfl, hb⟩; have hb1 := below_then (Lib.bytesWorld_below w 5 a1) (Lib.bytesWorld_below w 5 a1).size hb)
      go_ret2
      exact ⟨rfl, hb1⟩
    | false =>
      rw [if_neg (by simp)] at h
      obtain ⟨g, hg, h⟩ := Option.bind_eq_some_iff.mp h
      have gc := fun W => impl_big.calls k (a1.size : Int) 1 g W hg
      by_cases hs : g.size + a1.size ≤ 9223372036854775807
      · rw [if_pos hs] at h
        obtain ⟨rfl, rfl⟩ := Prod.mk.inj (Option.some.inj h)
        have hsa := eq_true hs
        have hsc : (9223372036854775807 < g.size + a1.size) = False := eq_false (by omega)
        clear h h30 hlen hany
        go_enter Tryz.func121, Tryz.ntmps121
        go_wp2_with (first | (go_at_call 147; refine (cc0 _ _).mono ?_; rintro e w1 ⟨rfl, hb⟩; have hb1 := below_then (Lib.bytesWorld_below w 5 a1) (Lib.bytesWorld_below w 5 a1).size hb) | (go_at_call 143; refine (gc _).mono ?_; rintro e w2 ⟨rfl, hbg⟩; have hb2 := below_then hb1 hb1.size hbg))
        go_ret2
        exact ⟨rfl, hb2⟩
      · rw [if_neg hs] at h; cases h
set_option maxRecDepth 100000 in
set_option maxHeartbeats 4000000 in
theorem data_a (k : Nat) (a1 : ByteArray) (parts : List ByteArray) (r1 : ByteArray) (r2 : Bool) (w : World) (hp : strings_Split.f a1 (⟨#[46]⟩ : ByteArray) = some parts) (h : impl_DataBytes.l0 k parts (⟨#[]⟩ : ByteArray) 0 = some (r1, r2)) (hv : Vars w) :
    Calls Tryz.prog 121 #[.int .i64 1, .string a1] w fun e w' => e = .returned (.tuple #[.string r1, .bool r2]) ∧ Below w.heap.size w w' := by
  have sc := fun W => strings_Split.calls a1 (⟨#[46]⟩ : ByteArray) parts W hp
  have HV := Aside0.mk hv
  have H' := Aside0.mk h
  clear h hv hp
  go_enter Tryz.func121, Tryz.ntmps121
  go_wp2_with (go_at_call 117; refine (sc _).mono ?_; rintro e w1 ⟨v, rfl, hR, hbw⟩; have HO := Aside0.mk hR; have HB1 := Aside0.mk hbw; clear hR hbw; obtain ⟨A, c, rfl⟩ := Kd.R_slice HO.out)
  go_loopg [6, 26] k (fun kq v6 v26 wr => ∃ (out : ByteArray) (x : Int), v6 = .string out ∧ v26 = .int .i64 x ∧ Aside0 (impl_DataBytes.l0 kq parts out x = some (r1, r2)) ∧ Aside0 (kq ≤ k) ∧ Aside0 (Kd.C Kd.string wr A parts.length parts) ∧ Aside0 (Below w.heap.size w wr))
  case atStart => exact ⟨(⟨#[]⟩ : ByteArray), 0, rfl, rfl, H', ⟨Nat.le_refl _⟩, ⟨(Kd.R_reads' HO.out).2.2⟩, HB1⟩
  case round =>
    obtain ⟨out, x, rfl, rfl, HA, HK1, HC, BW⟩ := hrel
    cases gk with
    | zero => exact absurd HA.out (by simp [impl_DataBytes.l0])
    | succ k1 =>
      have H := HA.out
      clear HA H'
      simp only [impl_DataBytes.l0] at H
      by_cases c1 : x < (parts.length : Int)
      · rw [if_pos c1] at H
        by_cases c2 : 0 ≤ x
        · rw [if_pos c2] at H
          obtain ⟨⟨b1, b2⟩, hb0, H⟩ := Option.bind_eq_some_iff.mp H
          replace H : (if b2 = true then (if (parts.length : Int) = 4 then ((impl_big.f k1 b1 1).bind fun t => (if out.size + t.size ≤ 9223372036854775807 then impl_DataBytes.l0 k1 parts (out ++ t) (wrap64 (x + 1)) else none)) else some badD) else some badD) = some (r1, r2) := H
          have nc := fun W (hbW : Below w.heap.size w W) => impl_numberIn.calls (rdOf ByteArray.empty parts x) 255 b1 b2 W hb0 (Vars.below HV.out hbW)
          have c1b : decide (x < (parts.length : Int)) = true := decide_eq_true c1
          obtain ⟨ad, e0, hx⟩ := Kd.at_string HC.out x c2 c1
          cases e0
          have c1z := eq_true c1
          have c2z := eq_true c2
          generalize rdOf ByteArray.empty parts x = pv at hb0 nc hx
          clear hb0
          have hbw := BW.out
          cases b2 with
          | false =>
            obtain ⟨rfl, rfl⟩ := Prod.mk.inj (Option.some.inj H)
            clear H
            go_wp2_with (go_at_call 142; refine (nc _ hbw).mono ?_; rintro e w2 ⟨rfl, hb2⟩)
            go_ret2
            exact ⟨rfl, below_then BW.out BW.out.size hb2⟩
          | true =>
            rw [if_pos rfl] at H
            by_cases c4 : (parts.length : Int) = 4
            · rw [if_pos c4] at H
              obtain ⟨g, hg, H⟩ := Option.bind_eq_some_iff.mp H
              have gc := fun W => impl_big.calls k1 b1 1 g W hg
              have c4a : ((parts.length : Int) == 4) = true := by rw [c4]; rfl
              have c4b : (parts.length == 4) = true := by rw [show parts.length = 4 by omega]; rfl
              have c4c : ((parts.length : Int) != 4) = false := by rw [c4]; rfl
              by_cases hs : out.size + g.size ≤ 9223372036854775807
              · rw [if_pos hs] at H
                have hsa := eq_true hs
                have hsc : (9223372036854775807 < out.size + g.size) = False := eq_false (by omega)
                have HN := Aside0.mk H
                clear H hg c4 hs
                go_wp2_with (first | (go_at_call 142; refine (nc _ hbw).mono ?_; rintro e w2 ⟨rfl, hb2⟩) | (go_at_call 143; refine (gc _).mono ?_; rintro e w3 ⟨rfl, hb3⟩; have hb4 := below_then hb2 hb2.size hb3))
                go_roundg k1
                case measure => have := HK1.out; omega
                case rel => exact ⟨out ++ g, wrap64 (x + 1), rfl, rfl, HN, ⟨by have := HK1.out; omega⟩, ⟨Kd.C_below HC.out hb4⟩, ⟨below_then BW.out BW.out.size hb4⟩⟩
              · rw [if_neg hs] at H; cases H
            · rw [if_neg c4] at H
              obtain ⟨rfl, rfl⟩ := Prod.mk.inj (Option.some.inj H)
              have c4a : ((parts.length : Int) == 4) = false := beq_eq_false_iff_ne.mpr c4
              have c4b : (parts.length == 4) = false := beq_eq_false_iff_ne.mpr (by omega)
              have c4c : ((parts.length : Int) != 4) = true := by rw [bne, c4a]; rfl
              clear H c4
              go_wp2_with (go_at_call 142; refine (nc _ hbw).mono ?_; rintro e w2 ⟨rfl, hb2⟩)
              go_ret2
              exact ⟨rfl, below_then BW.out BW.out.size hb2⟩
        · rw [if_neg c2] at H; cases H
      · rw [if_neg c1] at H
        have c1b : decide (x < (parts.length : Int)) = false := decide_eq_false c1
        obtain ⟨rfl, rfl⟩ := Prod.mk.inj (Option.some.inj H)
        clear H
        go_wp2
        go_ret2
        exact ⟨rfl, BW.out⟩
theorem impl_DataBytes.calls (k : Nat) (a0 : Int) (a1 : ByteArray) (r1 : ByteArray) (r2 : Bool) (w : World) (h : impl_DataBytes.f k a0 a1 = some (r1, r2))
    (hv : Vars w := by first | assumption | (refine Vars.below (Aside0.out (by assumption)) ?_; repeat (first | (with_reducible first | exact Below.refl _ _ | exact Aside0.out (by assumption) | apply below_alloc | apply pw_below_drewN | apply below_drew1) | exact Aside0.out (by assumption)))) :
    Calls Tryz.prog 121 #[.int .i64 a0, .string a1] w fun e w' => e = .returned (.tuple #[.string r1, .bool r2]) ∧ Below w.heap.size w w' := by
  unfold impl_DataBytes.f at h
  by_cases c1 : a0 = 1
  · rw [if_pos c1] at h
    subst c1
    obtain ⟨parts, hp, h⟩ := Option.bind_eq_some_iff.mp h
    exact data_a k a1 parts r1 r2 w hp h hv
  · rw [if_neg c1] at h
    by_cases c2 : a0 = 2 ∨ a0 = 5
    · rw [if_pos c2] at h
      exact data_ns k a0 c2 a1 r1 r2 w h hv
    · rw [if_neg c2] at h
      by_cases c6 : a0 = 6
      · rw [if_pos c6] at h
        subst c6
        exact data_soa k a1 r1 r2 w h hv
      · rw [if_neg c6] at h
        by_cases c15 : a0 = 15
        · rw [if_pos c15] at h
          subst c15
          exact data_mx k a1 r1 r2 w h hv
        · rw [if_neg c15] at h
          by_cases c16 : a0 = 16
          · rw [if_pos c16] at h
            subst c16
            exact data_txt k a1 r1 r2 w h
          · rw [if_neg c16] at h
            obtain ⟨rfl, rfl⟩ := Prod.mk.inj (Option.some.inj h)
            exact data_other a0 c1 (fun e => c2 (.inl e)) (fun e => c2 (.inr e)) c6 c15 c16 a1 w
end Go.Proofs.YtkpkfallgjdkmaaGreatDoor.P
