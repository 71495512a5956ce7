/- FnExactRecordsOf: part 26 of 28 of my texts for this claim, joined; the theorem stands in the last. Conditions: none beyond the statement's. -/
import Derived.Test.YtiegkjimpclmaaaGreatDoorMFnExactRecordsOfx23
import Derived.Test.YtiegkjimpclmaaaGreatDoorMFnExactRecordsOfx13
import Derived.Test.YtiegkjimpclmaaaGreatDoorMFnExactRecordsOfx10
import Derived.Test.YtiegkjimpclmaaaGreatDoorMFnExactRecordsOfx20
import Derived.Test.YtiegkjimpclmaaaGreatDoorMFnExactRecordsOfx24
namespace Go.Proofs.YtiegkjimpclmaaaGreatDoor.Pure
open Go.RowKit Go.Proofs.YtiegkjimpclmaaaGreatDoor.P Go.Proofs.YtiegkjimpclmaaaGreatDoorW.PrintWords Go.Proofs.YtiegkjimpclmaaaGreatDoorW.PrintLast Go.Proofs.YtiegkjimpclmaaaGreatDoorW.PrintMore
set_option linter.unusedVariables false
set_option linter.unusedSimpArgs false
theorem a_small : ∀ (k i : Nat) (parts : List ByteArray) (out x : ByteArray), impl_DataBytes.l0 k parts out (i : Int) = some (x, true) → (∀ y ∈ parts, y.size ≤ 1048576) → parts.length < 1099511627776 → (i < parts.length → parts.length = 4) ∧ ∀ j (h : j < parts.length), i ≤ j → parts[j].size ≤ 10
 | 0, i, parts, out, x, h, hs, hl => by simp [impl_DataBytes.l0] at h
 | k + 1, i, parts, out, x, h, hs, hl => by
  unfold impl_DataBytes.l0 at h
  by_cases c1 : (i : Int) < (parts.length : Int)
  · have hi : i < parts.length := by omega
    have hsz := hs _ (List.getElem_mem hi)
    obtain ⟨v, hn1, hn2⟩ := number_eq parts[i] 255 (by omega) (by omega) (by omega)
    rw [if_pos c1, if_pos (by omega), td_rd parts i hi, hn1, Option.bind_some] at h
    by_cases hb : (canL parts[i].data.toList && decide ((valL parts[i].data.toList : Int) ≤ 255)) = true
    · rw [if_pos hb] at h
      by_cases h4 : (parts.length : Int) = 4
      · rw [if_pos h4] at h
        obtain ⟨t, ht, h⟩ := Option.bind_eq_some_iff.mp h
        by_cases ho : out.size + t.size ≤ 9223372036854775807
        · rw [if_pos ho, w64n (by omega)] at h
          have ih := a_small k (i + 1) parts _ x h hs hl
          refine ⟨fun _ => by omega, fun j hj hij => ?_⟩
          by_cases e : j = i
          · subst e
            rw [Bool.and_eq_true] at hb
            have hc := hb.1
            unfold canL at hc
            simp only [Bool.and_eq_true, decide_eq_true_eq] at hc
            rw [size_len]
            exact hc.1.1.2
          · exact ih.2 j hj (by omega)
        · rw [if_neg ho] at h; cases h
      · rw [if_neg h4] at h
        cases (Prod.mk.inj (Option.some.inj h)).2
    · rw [if_neg hb] at h
      cases (Prod.mk.inj (Option.some.inj h)).2
  · exact ⟨fun h2 => absurd h2 (by omega), fun j hj hij => absurd hj (by omega)⟩
theorem sum_le : ∀ l : List (List UInt8), (∀ p ∈ l, p.length ≤ 10) → (l.map fun p => 1 + p.length).sum ≤ 11 * l.length
 | [], _ => Nat.le_refl _
 | x :: r, h => by
  have ih := sum_le r fun p hp => h p (List.mem_cons_of_mem _ hp)
  have hx := h x List.mem_cons_self
  rw [List.map_cons, List.sum_cons, List.length_cons]
  omega
theorem can_len {l : List UInt8} {m : Int} (h : (canL l && decide ((valL l : Int) ≤ m)) = true) : l.length ≤ 10 := by
 rw [Bool.and_eq_true] at h
 have hc := h.1
 unfold canL at hc
 simp only [Bool.and_eq_true, decide_eq_true_eq] at hc
 exact hc.1.1.2
theorem cut_sizes {s q1 q2 : ByteArray} {q3 : Bool} (hs : s.size ≤ 1048576) (h : strings_Cut.f s (⟨#[32]⟩ : ByteArray) = some (q1, q2, q3)) : q1.size + q2.size ≤ s.size ∧ s.size ≤ q1.size + q2.size + 1 := by
 unfold strings_Cut.f stringslite_Cut.f internal_stringslite_Index.f at h
 rw [if_pos (show (⟨#[32]⟩ : ByteArray).size = 1 from rfl)] at h
 simp only [Option.bind_some] at h
 rw [show List.headD (⟨#[32]⟩ : ByteArray).data.toList 0 = 32 from rfl, show (⟨#[32]⟩ : ByteArray).size = 1 from rfl] at h
 rcases place_or 32 s.data.toList with ⟨h1, _⟩ | ⟨p, r, h1, _, h3⟩
 · rw [h1, if_neg (by omega)] at h
   simp only [Option.bind_some, Option.some.injEq, Prod.mk.injEq] at h
   obtain ⟨rfl, rfl, _⟩ := h
   exact ⟨Nat.le_refl _, by show s.size ≤ s.size + 0 + 1; omega⟩
 · have hl : p.length + (r.length + 1) = s.size := by rw [size_len, h1]; simp
   rw [h3, show (((1 : Nat) : Int)) = 1 from rfl, w64n (by omega), if_pos (by omega), if_pos (by omega), if_pos (by omega), if_pos (by omega), if_pos (by omega), Int.toNat_natCast, Int.toNat_natCast] at h
   simp only [Option.bind_some, Option.some.injEq, Prod.mk.injEq] at h
   obtain ⟨rfl, rfl, _⟩ := h
   rw [ByteArray.size_extract, ByteArray.size_extract]
   omega
theorem data_small {k : Nat} {kind : Int} {s x : ByteArray} (hs : s.size ≤ 1048576) (h : impl_DataBytes.f k kind s = some (x, true)) : s.size ≤ 100 := by
 unfold impl_DataBytes.f at h
 by_cases c1 : kind = 1
 · rw [if_pos c1] at h
   have hsp : strings_Split.f s (⟨#[46]⟩ : ByteArray) = some ((splitL 46 s.data.toList).map mkB) := by
    unfold strings_Split.f
    rw [if_pos (show (⟨#[46]⟩ : ByteArray).size = 1 from rfl), if_pos (by omega)]
    rfl
   rw [hsp, Option.bind_some] at h
   have hne := splitL_ne 46 s.data.toList
   have hpl : 0 < (splitL 46 s.data.toList).length := List.length_pos_iff.2 hne
   have hlen : (splitL 46 s.data.toList).length ≤ s.size + 1 := by rw [size_len]; exact splitL_len _ _
   have hg := a_small k 0 _ _ _ h (by
    intro y hy
    obtain ⟨q, hq, rfl⟩ := List.mem_map.1 hy
    have := splitL_part 46 _ q hq
    rw [← size_len] at this
    rw [mkB_size]
    omega) (by rw [List.length_map]; omega)
   have h4 := hg.1 (by rw [List.length_map]; exact hpl)
   rw [List.length_map] at h4
   have hsum := sum_le (splitL 46 s.data.toList) (by
    intro p hp
    obtain ⟨j, hj, rfl⟩ := List.mem_iff_getElem.1 hp
    have := hg.2 j (by rw [List.length_map]; exact hj) (Nat.zero_le _)
    rw [List.getElem_map, mkB_size] at this
    exact this)
   rw [split_sum, h4, ← size_len] at hsum
   omega
 · rw [if_neg c1] at h
   by_cases c2 : kind = 2 ∨ kind = 5
   · rw [if_pos c2] at h
     unfold dataNs at h
     rw [target_impl, Option.bind_some] at h
     by_cases ht : targL s.data.toList = true
     · have := good_size (targ_good ht)
       rw [← size_len] at this
       omega
     · rw [if_neg ht] at h
       cases (Prod.mk.inj (Option.some.inj h)).2
   · rw [if_neg c2] at h
     by_cases c6 : kind = 6
     · rw [if_pos c6] at h
       unfold dataSoa at h
       obtain ⟨v, hn1, _⟩ := number_eq s 4294967295 (by omega) (by omega) (by omega)
       rw [hn1, Option.bind_some] at h
       by_cases hb : (canL s.data.toList && decide ((valL s.data.toList : Int) ≤ 4294967295)) = true
       · have := can_len hb
         rw [← size_len] at this
         omega
       · rw [if_neg hb] at h
         cases (Prod.mk.inj (Option.some.inj h)).2
     · rw [if_neg c6] at h
       by_cases c15 : kind = 15
       · rw [if_pos c15] at h
         unfold dataMx at h
         obtain ⟨⟨q1, q2, q3⟩, hc, h⟩ := Option.bind_eq_some_iff.mp h
         have hcut : q1.size + q2.size ≤ s.size ∧ s.size ≤ q1.size + q2.size + 1 := cut_sizes hs hc
         obtain ⟨v, hn1, _⟩ := number_eq q1 65535 (by omega) (by omega) (by omega)
         rw [hn1, Option.bind_some] at h
         by_cases hb : (canL q1.data.toList && decide ((valL q1.data.toList : Int) ≤ 65535)) = true
         · rw [if_pos hb, target_impl, Option.bind_some] at h
           by_cases ht : targL q2.data.toList = true
           · have h1 := good_size (targ_good ht)
             have h2 := can_len hb
             rw [← size_len] at h1 h2
             omega
           · rw [if_neg ht] at h
             cases (Prod.mk.inj (Option.some.inj h)).2
         · rw [if_neg hb] at h
           cases (Prod.mk.inj (Option.some.inj h)).2
       · rw [if_neg c15] at h
         by_cases c16 : kind = 16
         · rw [if_pos c16] at h
           unfold dataTxt at h
           by_cases h30 : (s.size : Int) > 30
           · rw [if_pos h30] at h
             cases (Prod.mk.inj (Option.some.inj h)).2
           · omega
         · rw [if_neg c16] at h
           cases (Prod.mk.inj (Option.some.inj h)).2
theorem data_full (kind : Int) (s : ByteArray) (hs : s.size ≤ 1048576) : ∃ q, Ev (fun k => spec_l3Bytes.f k kind s) q ∧ Ev (fun k => impl_DataBytes.f k kind s) (if q.2 = true then (q.1, true) else badD) ∧ (q.2 = true → s.size ≤ 100) := by
 obtain ⟨r, ⟨K, h1⟩, h2⟩ := data_both kind s hs
 have h1 : specData K kind s = some r := h1 K (Nat.le_refl _)
 unfold specData at h1
 obtain ⟨q, hq, h1⟩ := Option.bind_eq_some_iff.mp h1
 have hQ : Ev (fun k => spec_l3Bytes.f k kind s) q := Ev.of (fun k => spec_l3Bytes.mono _ _ _) (k := K) hq
 have er : (if q.2 = true then (q.1, true) else badD) = r := by
  by_cases hq2 : q.2 = true
  · rw [if_pos hq2] at h1 ⊢
    exact Option.some.inj h1
  · rw [if_neg hq2] at h1 ⊢
    exact Option.some.inj h1
 refine ⟨q, hQ, by rw [er]; exact h2, fun hq2 => ?_⟩
 rw [if_pos hq2] at er
 obtain ⟨K2, h2⟩ := h2
 have h3 : impl_DataBytes.f K2 kind s = some r := h2 K2 (Nat.le_refl _)
 rw [← er] at h3
 exact data_small hs h3
theorem goodrec_both (a : ByteArray) (b c : Int) (d : ByteArray) (ha : a.size ≤ 1048576) (hd : d.size ≤ 1048576) : ∃ r q, Ev (fun k => spec_GoodRecord.f k a b c d) r ∧ Ev (fun k => impl_GoodRecord.f k a b c d) r ∧ Ev (fun k => spec_l3Bytes.f k b d) q ∧ Ev (fun k => impl_DataBytes.f k b d) (if q.2 = true then (q.1, true) else badD) ∧ r = (q.2 && (goodL a.data.toList && decide (0 ≤ c ∧ c ≤ 100000))) ∧ (q.2 = true → d.size ≤ 100) := by
 obtain ⟨q, q1, q2, q3⟩ := data_full b d hd
 refine ⟨q.2 && (goodL a.data.toList && decide (0 ≤ c ∧ c ≤ 100000)), q, ?_, ?_, q1, q2, rfl, q3⟩
 · refine Ev.congr (fun k => rfl) (Ev.bind q1 ?_)
   cases hq : q.2 with
   | false => exact Ev.now _
   | true =>
    refine Ev.bind (specGood_ev a (by omega)) ?_
    cases hg : goodL a.data.toList with
    | false => exact Ev.now _
    | true =>
     simp only [if_true, within_spec, Option.bind_some, Bool.true_and]
     exact Ev.now _
 · cases hg : goodL a.data.toList with
   | false =>
    rw [Bool.false_and, Bool.and_false]
    refine Ev.congr (fun k => ?_) (Ev.now _)
    unfold impl_GoodRecord.f impl_GoodName.f
    rw [hg]
    rfl
   | true =>
    by_cases hc : 0 ≤ c ∧ c ≤ 100000
    · rw [decide_eq_true hc, Bool.true_and, Bool.and_true]
      by_cases h100 : (d.size : Int) > 100
      · have hf : q.2 = false := by
         rw [Bool.eq_false_iff]
         intro h
         have := q3 h
         omega
        rw [hf]
        refine Ev.congr (fun k => ?_) (Ev.now _)
        unfold impl_GoodRecord.f impl_GoodName.f
        rw [hg, Option.bind_some, if_pos rfl, within_eq, Option.bind_some, decide_eq_true hc, if_pos rfl, if_pos h100]
      · refine Ev.congr (f := fun k => (impl_DataBytes.f k b d).bind fun bt237 => (some bt237.2)) (fun k => ?_) (Ev.bind q2 ?_)
        · unfold impl_GoodRecord.f impl_GoodName.f
          rw [hg, Option.bind_some, if_pos rfl, within_eq, Option.bind_some, decide_eq_true hc, if_pos rfl, if_neg h100]
        · cases q.2 with
          | false => exact Ev.now _
          | true => exact Ev.now _
    · rw [decide_eq_false hc, Bool.and_false, Bool.and_false]
      refine Ev.congr (fun k => ?_) (Ev.now _)
      unfold impl_GoodRecord.f impl_GoodName.f
      rw [hg, Option.bind_some, if_pos rfl, within_eq, Option.bind_some, decide_eq_false hc, if_neg (by simp)]
theorem data_kind {k : Nat} {kind : Int} {s x : ByteArray} (h : impl_DataBytes.f k kind s = some (x, true)) : 1 ≤ kind ∧ kind ≤ 16 := by
 unfold impl_DataBytes.f at h
 by_cases c : 1 ≤ kind ∧ kind ≤ 16
 · exact c
 · rw [if_neg (by omega), if_neg (by omega), if_neg (by omega), if_neg (by omega), if_neg (by omega)] at h
   cases (Prod.mk.inj (Option.some.inj h)).2
theorem good_parts (a : ByteArray) (b c : Int) (d : ByteArray) (ha : a.size ≤ 1048576) (hd : d.size ≤ 1048576) (h : Ev (fun k => impl_GoodRecord.f k a b c d) true) : a.size ≤ 60 ∧ goodL a.data.toList = true ∧ (1 ≤ b ∧ b ≤ 16) ∧ (0 ≤ c ∧ c ≤ 100000) ∧ d.size ≤ 100 := by
 obtain ⟨r, q, r1, r2, q1, ⟨K, q2⟩, hr, hs⟩ := goodrec_both a b c d ha hd
 have e := Ev.unique h r2
 subst e
 have hr := hr.symm
 rw [Bool.and_eq_true, Bool.and_eq_true, decide_eq_true_eq] at hr
 have hK : impl_DataBytes.f K b d = some (if q.2 = true then (q.1, true) else badD) := q2 K (Nat.le_refl _)
 rw [if_pos hr.1] at hK
 have := good_size hr.2.1
 rw [← size_len] at this
 exact ⟨this, hr.2.1, data_kind hK, hr.2.2, hs hr.1⟩
end Go.Proofs.YtiegkjimpclmaaaGreatDoor.Pure
namespace Go.Proofs.YtiegkjimpclmaaaGreatDoor.P
open Go.RowKit Go.Proofs.YtiegkjimpclmaaaGreatDoorW.PrintWords Go.Proofs.YtiegkjimpclmaaaGreatDoorW.PrintLast Go.Proofs.YtiegkjimpclmaaaGreatDoorW.PrintMore
set_option linter.unusedVariables false
set_option linter.unusedSimpArgs false
abbrev LSet := S82
abbrev kLSet := k82
abbrev SRec := S45
abbrev kRec := k45
def laws_FnExactRecordsOf.f (k : Nat) (l : List LSet) : Prop := ∃ t, laws_szSetS.f k l 1048576 = some t ∧ (t < 0 ∨ (0 ≤ t ∧ ∃ x r b k1 x2 m r2, laws_toSetS.f k l = some x ∧ spec_RecordsOf.f k x = some (r, b) ∧ impl_RecordsOf.f k x = some (r, b) ∧ laws_eqRecordS.f k r r = some true ∧ laws_eqSetS.f k x x = some true ∧
  laws_markSetS.f k x 1 = some (k1, x2) ∧ 0 ≤ k1 ∧ laws_markRecordS.f k r 1 = some (m, r2) ∧ 0 ≤ m ∧ laws_heldRecordS.f k r2 1 = some m))
structure Tok (n : Nat) : Prop where
theorem held_at {A : Option Addr} {n n' c : Nat} {a : Int} {W : World} {R : Ending → World → Prop} {f : FuncId} (h : Calls Tryz.prog f #[.slice A n' c, .int .i64 a] W R) (e : n = n') : Calls Tryz.prog f #[.slice A n c, .int .i64 a] W R := e ▸ h
theorem c_at {α : Type} {d : Kd α} {A : Option Addr} {n n' : Nat} {W : World} {xs : List α} (h : Kd.C d W A n' xs) (e : n = n') : Kd.C d W A n' xs := h
set_option maxHeartbeats 8000000 in
set_option maxRecDepth 100000 in
theorem laws_FnExactRecordsOf.calls (k : Nat) (A0 : Option Addr) (c0 : Nat) (l0 : List LSet) (r_ : Bool) (w : World) (hr0 : Kd.C kLSet w A0 l0.length l0) (hc0 : l0.length ≤ c0) (h : laws_FnExactRecordsOf.f k l0) (hv_ : Vars w := by first | assumption) (hr_ : r_ = true := by rfl) :
    Calls Tryz.prog 4 #[.slice A0 l0.length c0] w fun e w' => e = .returned (.bool r_) ∧ Below w.heap.size w w' := by
  subst hr_
  obtain ⟨t, hsz, h⟩ := h
  have HC := Aside0.mk hr0
  have HL := Aside0.mk hc0
  have HZ := Aside0.mk hsz
  have HV := Aside0.mk hv_
  clear hr0 hc0 hsz hv_
  rcases h with h | ⟨h, x, r, b, k1, x2, m, r2, e1, e2, e3, e4, e5, e6, hk1, e7, hm, e8⟩
  · have hd : decide (t < 0) = true := decide_eq_true h
    clear h
    go_enter Tryz.func4, Tryz.ntmps4
    go_wp2_with (first | (go_at_call 12; refine (laws_szSetS.calls k A0 c0 l0 1048576 t _ HC.out HL.out HZ.out).mono ?_; rintro e w1 ⟨rfl, hb⟩))
    go_ret
    exact ⟨rfl, hb⟩
  · have hd : decide (t < 0) = false := decide_eq_false (by omega)
    have hd1 : decide (k1 < 0) = false := decide_eq_false (by omega)
    have hd2 : decide (m < 0) = false := decide_eq_false (by omega)
    have E1 := Aside0.mk e1
    have E2 := Aside0.mk e2
    have E3 := Aside0.mk e3
    have E4 := Aside0.mk e4
    have E5 := Aside0.mk e5
    have E6 := Aside0.mk e6
    have E7 := Aside0.mk e7
    have E8 := Aside0.mk e8
    clear e1 e2 e3 e4 e5 e6 e7 e8 hk1 hm h
    have T1 : Tok 1 := ⟨⟩
    cases b <;> (
      go_enter Tryz.func4, Tryz.ntmps4
      go_wp2_with (first
        | (clear T1; go_at_call 12; refine (laws_szSetS.calls k A0 c0 l0 1048576 t _ HC.out HL.out HZ.out).mono ?_; rintro e w1 ⟨rfl, hb⟩
           have HB1 := Aside0.mk hb
           have T2 : Tok 2 := ⟨⟩
           clear hb)
        | (clear T2; go_at_call 14; refine (laws_toSetS.calls k A0 c0 l0 x _ (Kd.C_below HC.out HB1.out) HL.out E1.out).mono ?_; rintro e w2 ⟨v2, rfl, hs, hb⟩
           have HB2 := Aside0.mk (below_step HB1.out hb)
           obtain ⟨A2, c2, rfl, hc2, hC2⟩ := Kd.S_reads hs
           have HL2 := Aside0.mk hc2
           have HC2 := Aside0.mk hC2
           have T3 : Tok 3 := ⟨⟩
           clear hb HB1 hs hc2 hC2)
        | (clear T3; go_at_call 13; refine (spec_RecordsOf.calls k A2 c2 x r _ _ HC2.out HL2.out E2.out).mono ?_; rintro e w3 ⟨v3, rfl, hs, hb⟩
           have HB3 := Aside0.mk (below_step HB2.out hb)
           obtain ⟨A3, c3, rfl⟩ := Kd.R_slice hs
           have HW := Aside0.mk hs
           have T4 : Tok 4 := ⟨⟩
           clear hb HB2 hs HC2 HL2)
        | (clear T4; go_at_call 14; refine (laws_toSetS.calls k A0 c0 l0 x _ (Kd.C_below HC.out HB3.out) HL.out E1.out).mono ?_; rintro e w4 ⟨v4, rfl, hs, hb⟩
           have HW4 := Aside0.mk (Kd.R_old HW.out hb)
           have HB4 := Aside0.mk (below_step HB3.out hb)
           have HA4 := Aside0.mk hb
           obtain ⟨A4, c4, rfl⟩ := Kd.S_slice hs
           have HX4 := Aside0.mk (Kd.S_bound hs)
           have T5 : Tok 5 := ⟨⟩
           have HS34 := Aside0.mk hb.size
           clear hb hs HW)
        | (clear T5; go_at_call 15; refine (impl_RecordsOf.calls k A4 c4 x r _ _ (Kd.S_reads' HX4.out).2.2 (Kd.S_reads' HX4.out).2.1 E3.out (Vars.below HV.out HB4.out)).mono ?_; rintro e w5 ⟨v5, rfl, hs, hb⟩
           have HW5 := Aside0.mk (Kd.R_below HW4.out hb)
           have HX5 := Aside0.mk (Kd.S_below HX4.out hb)
           have HB5 := Aside0.mk (below_step HB4.out hb)
           have HA5 := Aside0.mk (below_step HA4.out hb)
           have HS5 := Aside0.mk hb.size
           obtain ⟨A5, c5, rfl⟩ := Kd.R_slice hs
           have HG5 := Aside0.mk (Kd.R_bound hs)
           have T6 : Tok 6 := ⟨⟩
           clear hb HB4 HA4 hs HW4 HX4)
        | (clear T6; go_at_call 16; refine (laws_eqRecordS.calls k A5 c5 r A3 c3 r true _ (Kd.R_reads' HG5.out).2.2 (Kd.R_reads' HG5.out).2.1 (Kd.R_reads' HW5.out).2.2 (Kd.R_reads' HW5.out).2.1 E4.out).mono ?_; rintro e w6 ⟨rfl, hb⟩
           have HW6 := Aside0.mk (Kd.R_below HW5.out hb)
           have HX6 := Aside0.mk (Kd.S_below HX5.out hb)
           have HG6 := Aside0.mk (Kd.R_below HG5.out hb)
           have HB6 := Aside0.mk (below_step HB5.out hb)
           have HA6 := Aside0.mk (below_step HA5.out hb)
           have T7 : Tok 7 := ⟨⟩
           clear hb HW5 HX5 HG5 HB5 HA5)
        | (clear T7; go_at_call 14; refine (laws_toSetS.calls k A0 c0 l0 x _ (Kd.C_below HC.out HB6.out) HL.out E1.out).mono ?_; rintro e w7 ⟨v7, rfl, hs, hb⟩
           have HW7 := Aside0.mk (Kd.R_below HW6.out hb)
           have HX7 := Aside0.mk (Kd.S_below HX6.out hb)
           have HG7 := Aside0.mk (Kd.R_below HG6.out hb)
           have HB7 := Aside0.mk (below_step HB6.out hb)
           have HA7 := Aside0.mk (below_step HA6.out hb)
           obtain ⟨A7, c7, rfl, hc7, hC7⟩ := Kd.S_reads hs
           have HL7 := Aside0.mk hc7
           have HC7 := Aside0.mk hC7
           have T8 : Tok 8 := ⟨⟩
           clear hb hs hc7 hC7 HW6 HX6 HG6 HB6 HA6)
        | (clear T8; go_at_call 17; refine (laws_eqSetS.calls k A4 c4 x A7 c7 x true _ (Kd.S_reads' HX7.out).2.2 (Kd.S_reads' HX7.out).2.1 HC7.out HL7.out E5.out).mono ?_; rintro e w8 ⟨rfl, hb⟩
           have HW8 := Aside0.mk (Kd.R_below HW7.out hb)
           have HX8 := Aside0.mk (Kd.S_below HX7.out hb)
           have HG8 := Aside0.mk (Kd.R_below HG7.out hb)
           have HB8 := Aside0.mk (below_step HB7.out hb)
           have HA8 := Aside0.mk (below_step HA7.out hb)
           have T9 : Tok 9 := ⟨⟩
           clear hb HW7 HX7 HG7 HB7 HA7 HC7 HL7)
        | (clear T9; go_at_call 18; refine (laws_markSetS.calls k _ _ x 1 k1 x2 w3 _ HA8.out HX8.out E6.out).mono ?_; rintro e w9 ⟨rfl, _, hb, hk⟩
           have HW9 := Aside0.mk (Kd.R_kept HW8.out hk (fun q h1 h2 => Nat.lt_irrefl _ (Nat.lt_of_lt_of_le h1.2 h2.2.1)))
           have HG9 := Aside0.mk (Kd.R_kept HG8.out hk (fun q h1 h2 => Nat.lt_irrefl _ (Nat.lt_of_lt_of_le h2.2.2.1 h1.2.1)))
           have HB9 := Aside0.mk (below_step HB3.out hb)
           have HA9 := Aside0.mk hb
           have T10 : Tok 10 := ⟨⟩
           clear hk hb HW8 HX8 HG8 HA8 HB8)
        | (clear T10; go_at_call 16; refine (laws_eqRecordS.calls k A5 c5 r A3 c3 r true _ (Kd.R_reads' HG9.out).2.2 (Kd.R_reads' HG9.out).2.1 (Kd.R_reads' HW9.out).2.2 (Kd.R_reads' HW9.out).2.1 E4.out).mono ?_; rintro e w10 ⟨rfl, hb⟩
           have HW10 := Aside0.mk (Kd.R_below HW9.out hb)
           have HG10 := Aside0.mk (Kd.R_below HG9.out hb)
           have HA10 := Aside0.mk (below_step HA9.out hb)
           have T11 : Tok 11 := ⟨⟩
           clear hb HW9 HG9 HB9 HA9)
        | (clear T11; go_at_call 19; refine (laws_markRecordS.calls k _ _ r 1 m r2 w3 _ HA10.out (Kd.R_lower HG10.out HS34.out) E7.out).mono ?_; rintro e w11 ⟨rfl, hg, hb, hk⟩
           have HW11 := Aside0.mk (Kd.R_kept HW10.out hk (fun q h1 h2 => Nat.lt_irrefl _ (Nat.lt_of_lt_of_le h1.2 (Nat.le_trans HS34.out h2.2.1))))
           have HG11 := Aside0.mk hg
           have EL := Aside0.mk (Kd.R_reads' hg).1
           have HB11 := Aside0.mk (below_step HB3.out hb)
           have T12 : Tok 12 := ⟨⟩
           clear hg hk hb HW10 HG10 HA10 HB3)
        | (clear T12; go_at_call 20; refine (held_at (laws_heldRecordS.calls k A5 c5 r2 1 m _ (c_at (Kd.R_reads' HG11.out).2.2 EL.out) (EL.out ▸ (Kd.R_reads' HG11.out).2.1) E8.out) EL.out).mono ?_; rintro e w12 ⟨rfl, hb⟩
           have HW12 := Aside0.mk (Kd.R_below HW11.out hb)
           have HG12 := Aside0.mk (Kd.R_below HG11.out hb)
           have HB12 := Aside0.mk (below_step HB11.out hb)
           have T13 : Tok 13 := ⟨⟩
           clear hb HW11 HG11 HB11)
        | (clear T13; go_at_call 14; refine (laws_toSetS.calls k A0 c0 l0 x _ (Kd.C_below HC.out HB12.out) HL.out E1.out).mono ?_; rintro e w13 ⟨v13, rfl, hs, hb⟩
           have HW13 := Aside0.mk (Kd.R_below HW12.out hb)
           have HG13 := Aside0.mk (Kd.R_below HG12.out hb)
           have HB13 := Aside0.mk (below_step HB12.out hb)
           obtain ⟨A13, c13, rfl, hc13, hC13⟩ := Kd.S_reads hs
           have HL13 := Aside0.mk hc13
           have HC13 := Aside0.mk hC13
           have T14 : Tok 14 := ⟨⟩
           clear hb hs hc13 hC13 HW12 HG12 HB12)
        | (clear T14; go_at_call 15; refine (impl_RecordsOf.calls k A13 c13 x r _ _ HC13.out HL13.out E3.out (Vars.below HV.out HB13.out)).mono ?_; rintro e w14 ⟨v14, rfl, hs, hb⟩
           have HW14 := Aside0.mk (Kd.R_below HW13.out hb)
           have HG14 := Aside0.mk (Kd.R_below HG13.out hb)
           have HB14 := Aside0.mk (below_step HB13.out hb)
           obtain ⟨A14, c14, rfl, hc14, hC14⟩ := Kd.R_reads hs
           have HL14 := Aside0.mk hc14
           have HC14 := Aside0.mk hC14
           have T15 : Tok 15 := ⟨⟩
           clear hb hs hc14 hC14 HW13 HG13 HB13 HC13 HL13)
        | (clear T15; go_at_call 16; refine (laws_eqRecordS.calls k A14 c14 r A3 c3 r true _ HC14.out HL14.out (Kd.R_reads' HW14.out).2.2 (Kd.R_reads' HW14.out).2.1 E4.out).mono ?_; rintro e w15 ⟨rfl, hb⟩
           have HG15 := Aside0.mk (Kd.R_below HG14.out hb)
           have HB15 := Aside0.mk (below_step HB14.out hb)
           have T16 : Tok 16 := ⟨⟩
           clear hb HW14 HG14 HB14 HC14 HL14)
        | (clear T16; go_at_call 20; refine (held_at (laws_heldRecordS.calls k A5 c5 r2 1 m _ (c_at (Kd.R_reads' HG15.out).2.2 EL.out) (EL.out ▸ (Kd.R_reads' HG15.out).2.1) E8.out) EL.out).mono ?_; rintro e w16 ⟨rfl, hb⟩
           have HB16 := Aside0.mk (below_step HB15.out hb)
           clear hb HG15 HB15))
      go_ret
      exact ⟨rfl, HB16.out⟩)
end Go.Proofs.YtiegkjimpclmaaaGreatDoor.P
namespace Go.Proofs.YtiegkjimpclmaaaGreatDoor.Pure
open Go.RowKit Go.Proofs.YtiegkjimpclmaaaGreatDoor.P Go.Proofs.YtiegkjimpclmaaaGreatDoorW.PrintWords Go.Proofs.YtiegkjimpclmaaaGreatDoorW.PrintLast Go.Proofs.YtiegkjimpclmaaaGreatDoorW.PrintMore
set_option linter.unusedVariables false
set_option linter.unusedSimpArgs false
abbrev LRec := S91
abbrev IRec := S45
def conv (x : LRec) : IRec := ⟨x.f0, x.f1, x.f2, x.f3⟩
theorem rdI (l : List IRec) (i : Nat) (h : i < l.length) : rd_T45 l (i : Int) = l[i] := by
 unfold rd_T45
 rw [Int.toNat_natCast, List.getD_eq_getElem?_getD, List.getElem?_eq_getElem h, Option.getD_some]
def Small (x : ByteArray) : Prop := x.size ≤ 1048576
theorem eqRec_self (x : IRec) : laws_eqRecord.f x.f0 x.f1 x.f2 x.f3 x.f0 x.f1 x.f2 x.f3 = some true := by
 unfold laws_eqRecord.f
 simp
theorem eqRS_loop (l : List IRec) (hl : l.length < 1099511627776) : ∀ (m i : Nat), i + m = l.length → Ev (fun k => laws_eqRecordS.l0 k l l (i : Int)) true
 | 0, i, hi => by
  refine Ev.step (f := fun _ => some true) (fun k => ?_) (Ev.now _)
  show laws_eqRecordS.l0 (k + 1) l l (i : Int) = _
  rw [laws_eqRecordS.l0, if_neg (by omega)]
 | m + 1, i, hi => by
  have hlt : i < l.length := by omega
  have hw : wrap64 ((i : Int) + 1) = ((i + 1 : Nat) : Int) := w64n (by omega)
  refine Ev.step (f := fun k => laws_eqRecordS.l0 k l l ((i + 1 : Nat) : Int)) (fun k => ?_) (eqRS_loop l hl m (i + 1) (by omega))
  show laws_eqRecordS.l0 (k + 1) l l (i : Int) = _
  rw [laws_eqRecordS.l0, if_pos (by omega), if_pos (by omega), if_pos (by omega), eqRec_self, Option.bind_some, if_pos rfl, hw]
theorem eqRS_ev (l : List IRec) (hl : l.length ≤ 1048576) : Ev (fun k => laws_eqRecordS.f k l l) true := by
 refine Ev.congr (fun k => ?_) (eqRS_loop l (by omega) l.length 0 (by omega))
 unfold laws_eqRecordS.f
 rw [if_pos rfl]
 rfl
def cmpI (a b : Int) : Int := if a < b then -1 else (if b < a then 1 else 0)
theorem cmpI_eq (a b : Int) : cmp_Compare_int.f a b = some (cmpI a b) := by
 unfold cmp_Compare_int.f cmp_isNaN_int.f cmpI
 simp only [bne_self_eq_false, Option.bind_some, Bool.false_eq_true, if_false]
 by_cases h : a < b
 · rw [if_pos h, if_pos h]
 · rw [if_neg h, if_neg h]
   by_cases h2 : b < a
   · rw [if_pos h2, if_pos h2]
   · rw [if_neg h2, if_neg h2]
def or2 (a b : Int) : Int := if a = 0 then b else a
theorem or_two (a b : Int) : Ev (fun k => cmp_Or_int.f k [a, b]) (or2 a b) := by
 refine Ev.of (fun k => cmp_Or_int.mono _ _) (k := 3) ?_
 show cmp_Or_int.f 3 [a, b] = _
 unfold or2
 by_cases h : a = 0
 · by_cases h2 : b = 0
   · simp [cmp_Or_int.f, cmp_Or_int.l0, rd, wrap64, h, h2]
   · simp [cmp_Or_int.f, cmp_Or_int.l0, rd, wrap64, h, h2]
 · simp [cmp_Or_int.f, cmp_Or_int.l0, rd, wrap64, h]
theorem or_three (a b c : Int) : Ev (fun k => cmp_Or_int.f k [a, b, c]) (or2 a (or2 b c)) := by
 refine Ev.of (fun k => cmp_Or_int.mono _ _) (k := 4) ?_
 show cmp_Or_int.f 4 [a, b, c] = _
 unfold or2
 by_cases h : a = 0
 · by_cases h2 : b = 0
   · by_cases h3 : c = 0
     · simp [cmp_Or_int.f, cmp_Or_int.l0, rd, wrap64, h, h2, h3]
     · simp [cmp_Or_int.f, cmp_Or_int.l0, rd, wrap64, h, h2, h3]
   · simp [cmp_Or_int.f, cmp_Or_int.l0, rd, wrap64, h, h2]
 · simp [cmp_Or_int.f, cmp_Or_int.l0, rd, wrap64, h]
theorem cmpB_eq : ∀ x y : List UInt8, Lib.compareBytes x y = if x = y then 0 else (if Op.bytesLess x y = true then -1 else 1)
 | [], [] => by simp [Lib.compareBytes]
 | [], _ :: _ => by simp [Lib.compareBytes, Op.bytesLess]
 | _ :: _, [] => by simp [Lib.compareBytes, Op.bytesLess]
 | a :: x, b :: y => by
  have ih := cmpB_eq x y
  unfold Lib.compareBytes Op.bytesLess
  by_cases h1 : a < b
  · have h3 : ¬ a = b := by rintro rfl; rw [UInt8.lt_iff_toNat_lt] at h1; omega
    simp [h1, h3]
  · by_cases h2 : b < a
    · have h3 : ¬ a = b := by rintro rfl; rw [UInt8.lt_iff_toNat_lt] at h2; omega
      simp [h1, h2, h3]
    · have h3 : a = b := by rw [UInt8.lt_iff_toNat_lt] at h1 h2; apply UInt8.toNat_inj.1; omega
      subst h3
      simp [h1, ih]
def ordR (a : List UInt8) (b c : Int) (x : List UInt8) (a' : List UInt8) (b' c' : Int) (x' : List UInt8) : Int := or2 (or2 (ordL a a') (cmpI b b')) (or2 (Lib.compareBytes x x') (cmpI c c'))
theorem good_bytes (b : Int) (d : ByteArray) (a : ByteArray) (c : Int) (ha : a.size ≤ 1048576) (hd : d.size ≤ 1048576) (h : Ev (fun k => impl_GoodRecord.f k a b c d) true) : ∃ x : ByteArray, Ev (fun k => spec_l3Bytes.f k b d) (x, true) ∧ Ev (fun k => impl_DataBytes.f k b d) (x, true) := by
 obtain ⟨r, q, r1, r2, q1, q2, hr, hs⟩ := goodrec_both a b c d ha hd
 have e := Ev.unique h r2
 subst e
 have hr := hr.symm
 rw [Bool.and_eq_true] at hr
 obtain ⟨x, y⟩ := q
 obtain rfl : y = true := hr.1
 exact ⟨x, q1, q2⟩
theorem implOrd_ev (a : ByteArray) (b c : Int) (d : ByteArray) (a' : ByteArray) (b' c' : Int) (d' x x' : ByteArray) (ha : a.size ≤ 1048576) (ha' : a'.size ≤ 1048576) (hx : Ev (fun k => impl_DataBytes.f k b d) (x, true)) (hx' : Ev (fun k => impl_DataBytes.f k b' d') (x', true)) :
 Ev (fun k => impl_compareRecords.f k a b c d a' b' c' d') (ordR a.data.toList b c x.data.toList a'.data.toList b' c' x'.data.toList) := by
 have hk : Ev (fun k => impl_compareKeys.f k a b c d a' b' c' d') (or2 (ordL a.data.toList a'.data.toList) (cmpI b b')) := by
  refine Ev.congr (fun k => rfl) (Ev.bind (implComp_ev a a' ha ha') ?_)
  simp only [cmpI_eq, Option.bind_some]
  exact Ev.bind (or_two _ _) (Ev.now _)
 have hd : ∀ {b : Int} {d x : ByteArray}, Ev (fun k => impl_DataBytes.f k b d) (x, true) → Ev (fun k => impl_dataBytes.f k b d) x := fun h => Ev.congr (fun k => rfl) (Ev.bind h (Ev.now _))
 refine Ev.congr (fun k => rfl) (Ev.bind hk (Ev.bind (hd hx) (Ev.bind (hd hx') ?_)))
 unfold strings_Compare.f
 simp only [cmpI_eq, Option.bind_some]
 exact Ev.bind (or_three _ _ _) (Ev.now _)
theorem less_eq (p : Bool) : spec_l3Less.f p = some (if p = true then -1 else 1) := by
 unfold spec_l3Less.f
 cases p <;> rfl
theorem cmpI_ne {a b : Int} (h : ¬ a = b) : cmpI a b = if decide (a < b) = true then -1 else 1 := by
 unfold cmpI
 by_cases h1 : a < b
 · rw [if_pos h1, if_pos (decide_eq_true h1)]
 · rw [if_neg h1, if_pos (by omega), if_neg (by simpa using h1)]
theorem cmpI_self (a : Int) : cmpI a a = 0 := by
 unfold cmpI
 rw [if_neg (by omega), if_neg (by omega)]
theorem specOrd_ev (a : ByteArray) (b c : Int) (d : ByteArray) (a' : ByteArray) (b' c' : Int) (d' x x' : ByteArray) (ha : a.size ≤ 1048576) (ha' : a'.size ≤ 1048576) (ga : goodL a.data.toList = true) (ga' : goodL a'.data.toList = true) (hx : Ev (fun k => spec_l3Bytes.f k b d) (x, true)) (hx' : Ev (fun k => spec_l3Bytes.f k b' d') (x', true)) :
 Ev (fun k => spec_l3Compare.f k a b c d a' b' c' d') (ordR a.data.toList b c x.data.toList a'.data.toList b' c' x'.data.toList) := by
 refine Ev.congr (fun k => rfl) (Ev.bind (specComp_ev a a' ha ha' ga ga') ?_)
 unfold ordR
 by_cases h0 : ordL a.data.toList a'.data.toList = 0
 · simp only [if_pos h0]
   refine Ev.bind hx (Ev.bind hx' ?_)
   simp only [less_eq, Option.bind_some]
   rw [h0]
   by_cases h1 : b = b'
   · subst h1
     simp only [if_true]
     rw [cmpI_self, cmpB_eq, Lib.toList_data, Lib.toList_data]
     by_cases h2 : x.data.toList = x'.data.toList
     · simp only [if_pos h2]
       by_cases h3 : c = c'
       · subst h3
         simp only [if_true]
         rw [cmpI_self]
         exact Ev.now _
       · simp only [if_neg h3]
         rw [cmpI_ne h3]
         exact Ev.now _
     · simp only [if_neg h2]
       by_cases h4 : Op.bytesLess x.data.toList x'.data.toList = true
       · simp only [if_pos h4]; exact Ev.now _
       · simp only [if_neg h4]; exact Ev.now _
   · simp only [if_neg h1]
     rw [cmpI_ne h1]
     by_cases h4 : decide (b < b') = true
     · simp only [if_pos h4]; exact Ev.now _
     · simp only [if_neg h4]; exact Ev.now _
 · simp only [if_neg h0]
   have e : ∀ y z : Int, or2 (or2 (ordL a.data.toList a'.data.toList) y) z = ordL a.data.toList a'.data.toList := fun y z => by
    unfold or2; rw [if_neg h0, if_neg h0]
   rw [e]
   exact Ev.now _
noncomputable def mark4 (a : Nat) : IRec := ⟨markT (a : Int), ((a + 1 : Nat) : Int), ((a + 2 : Nat) : Int), markT ((a + 3 : Nat) : Int)⟩
noncomputable def marksR (a n : Nat) : List IRec := (List.range n).map fun j => mark4 (a + 4 * j)
theorem marksR_len (a n : Nat) : (marksR a n).length = n := by simp [marksR]
theorem mR_w {n : Nat} (h : n < 4611686018427387904) : wrap64 ((n : Int) + 1) = ((n + 1 : Nat) : Int) := by unfold wrap64; omega
theorem rd_set (l : List IRec) (i : Nat) (x : IRec) (h : i < l.length) : rd_T45 (l.set i x) (i : Int) = x := by
 rw [rdI _ i (by rw [List.length_set]; exact h), List.getElem_set_self]
theorem markR_loop (a : Nat) (ha : a < 1000000000) : ∀ (m i : Nat) (l : List IRec), i + m = l.length → l.length ≤ 1048576 → l.take i = marksR a i →
 Ev (fun k => laws_markRecordS.l0 k l ((a + 4 * i : Nat) : Int) (i : Int)) (((a + 4 * l.length : Nat) : Int), marksR a l.length)
 | 0, i, l, h, hl, ht => by
  have hi : i = l.length := by omega
  subst hi
  refine Ev.step (f := fun _ => some (((a + 4 * l.length : Nat) : Int), marksR a l.length)) (fun k => ?_) (Ev.now _)
  show laws_markRecordS.l0 (k + 1) l ((a + 4 * l.length : Nat) : Int) (l.length : Int) = _
  rw [laws_markRecordS.l0, if_neg (by omega)]
  rw [List.take_length] at ht
  rw [← ht]
 | m + 1, i, l, h, hl, ht => by
  have hlt : i < l.length := by omega
  have ih := markR_loop a ha m (i + 1) (l.set i (mark4 (a + 4 * i))) (by rw [List.length_set]; omega) (by rw [List.length_set]; omega) (by
   rw [List.take_set, List.take_add_one, ht, List.getElem?_eq_getElem hlt]
   unfold marksR
   rw [List.range_succ, List.map_append]
   simp [List.set_append])
  rw [List.length_set] at ih
  have w1 : wrap64 (((a + 4 * i : Nat) : Int) + 1) = ((a + 4 * i + 1 : Nat) : Int) := mR_w (by omega)
  have w2 : wrap64 (((a + 4 * i + 1 : Nat) : Int) + 1) = ((a + 4 * i + 2 : Nat) : Int) := mR_w (by omega)
  have w3 : wrap64 (((a + 4 * i + 2 : Nat) : Int) + 1) = ((a + 4 * i + 3 : Nat) : Int) := mR_w (by omega)
  have w4 : wrap64 (((a + 4 * i + 3 : Nat) : Int) + 1) = ((a + 4 * (i + 1) : Nat) : Int) := mR_w (by omega)
  have w5 : wrap64 ((i : Int) + 1) = ((i + 1 : Nat) : Int) := mR_w (by omega)
  refine Ev.step (f := fun k => (laws_markText.f k ((a + 4 * i : Nat) : Int)).bind fun t => (laws_markText.f k ((a + 4 * i + 3 : Nat) : Int)).bind fun t' => laws_markRecordS.l0 k (l.set i ⟨t, ((a + 4 * i + 1 : Nat) : Int), ((a + 4 * i + 2 : Nat) : Int), t'⟩) ((a + 4 * (i + 1) : Nat) : Int) ((i + 1 : Nat) : Int)) (fun k => ?_) (Ev.bind (markT_ev _ (by omega)) (Ev.bind (markT_ev _ (by omega)) ih))
  show laws_markRecordS.l0 (k + 1) l ((a + 4 * i : Nat) : Int) (i : Int) = _
  rw [laws_markRecordS.l0, if_pos (by omega)]
  simp only [w1, w2, w3, w4, w5, Option.bind_some, Int.toNat_natCast, if_pos (show (0 : Int) ≤ (i : Int) by omega)]
  congr 1
  funext t
  have hr : ∀ x, rd_T45 (l.set i x) (i : Int) = x := fun x => rd_set l i x hlt
  simp only [List.set_set, hr]
theorem markR_ev (a : Nat) (ha : a < 1000000000) (l : List IRec) (hl : l.length ≤ 1048576) : Ev (fun k => laws_markRecordS.f k l (a : Int)) (((a + 4 * l.length : Nat) : Int), marksR a l.length) := by
 have := markR_loop a ha l.length 0 l (by omega) hl (by simp [marksR])
 exact Ev.congr (fun k => rfl) this
theorem heldR_loop (a n : Nat) (ha : a < 1000000000) (hn : n ≤ 1048576) : ∀ (m i : Nat), i + m = n → Ev (fun k => laws_heldRecordS.l0 k (marksR a n) ((a + 4 * i : Nat) : Int) (i : Int)) ((a + 4 * n : Nat) : Int)
 | 0, i, h => by
  have hi : i = n := by omega
  subst hi
  refine Ev.step (f := fun _ => some ((a + 4 * i : Nat) : Int)) (fun k => ?_) (Ev.now _)
  show laws_heldRecordS.l0 (k + 1) (marksR a i) ((a + 4 * i : Nat) : Int) (i : Int) = _
  rw [laws_heldRecordS.l0, if_neg (by rw [marksR_len]; omega)]
 | m + 1, i, h => by
  have hlt : i < (marksR a n).length := by rw [marksR_len]; omega
  have ih := heldR_loop a n ha hn m (i + 1) (by omega)
  have w1 : wrap64 (((a + 4 * i : Nat) : Int) + 1) = ((a + 4 * i + 1 : Nat) : Int) := mR_w (by omega)
  have w2 : wrap64 (((a + 4 * i + 1 : Nat) : Int) + 1) = ((a + 4 * i + 2 : Nat) : Int) := mR_w (by omega)
  have w3 : wrap64 (((a + 4 * i + 2 : Nat) : Int) + 1) = ((a + 4 * i + 3 : Nat) : Int) := mR_w (by omega)
  have w4 : wrap64 (((a + 4 * i + 3 : Nat) : Int) + 1) = ((a + 4 * (i + 1) : Nat) : Int) := mR_w (by omega)
  have w5 : wrap64 ((i : Int) + 1) = ((i + 1 : Nat) : Int) := mR_w (by omega)
  have hr : rd_T45 (marksR a n) (i : Int) = mark4 (a + 4 * i) := by
   rw [rdI _ i hlt]
   show ((List.range n).map fun j => mark4 (a + 4 * j))[i]'(by simpa [marksR] using hlt) = _
   rw [List.getElem_map, List.getElem_range]
  refine Ev.step (f := fun k => (laws_markText.f k ((a + 4 * i : Nat) : Int)).bind fun t => (if (markT ((a + 4 * i : Nat) : Int)).toList = t.toList then ((laws_markText.f k ((a + 4 * i + 3 : Nat) : Int)).bind fun t' => (if (markT ((a + 4 * i + 3 : Nat) : Int)).toList = t'.toList then laws_heldRecordS.l0 k (marksR a n) ((a + 4 * (i + 1) : Nat) : Int) ((i + 1 : Nat) : Int) else some (-1))) else some (-1))) (fun k => ?_) (Ev.bind (markT_ev _ (by omega)) ?_)
  · show laws_heldRecordS.l0 (k + 1) (marksR a n) ((a + 4 * i : Nat) : Int) (i : Int) = _
    rw [laws_heldRecordS.l0, if_pos (by omega), if_pos (by omega), hr]
    simp only [w1, w2, w3, w4, w5, mark4, if_true]
  · simp only [if_true]
    refine Ev.bind (markT_ev _ (by omega)) ?_
    simp only [if_true]
    exact ih
theorem heldR_ev (a n : Nat) (ha : a < 1000000000) (hn : n ≤ 1048576) : Ev (fun k => laws_heldRecordS.f k (marksR a n) (a : Int)) ((a + 4 * n : Nat) : Int) :=
 Ev.congr (fun k => rfl) (heldR_loop a n ha hn n 0 (by omega))
theorem or2_zero (a b : Int) : or2 a b = 0 ↔ a = 0 ∧ b = 0 := by
 unfold or2
 by_cases h : a = 0
 · rw [if_pos h]; exact ⟨fun e => ⟨h, e⟩, fun e => e.2⟩
 · rw [if_neg h]; exact ⟨fun e => absurd e h, fun e => absurd e.1 h⟩
theorem cmpI_zero (a b : Int) : cmpI a b = 0 ↔ a = b := by
 unfold cmpI
 by_cases h : a < b
 · rw [if_pos h]; omega
 · rw [if_neg h]
   by_cases h2 : b < a
   · rw [if_pos h2]; omega
   · rw [if_neg h2]; omega
end Go.Proofs.YtiegkjimpclmaaaGreatDoor.Pure
