/- FnExactCutMessage: part 11 of 14 of my texts for this claim, joined; the theorem stands in the last. Conditions: none beyond the statement's. -/
import Derived.Test.YtiegkjimpclmaaaGreatDoorMFnExactCutMessagex9
open Go.RowKit Go.Proofs.YtiegkjimpclmaaaGreatDoorW.PrintWords Go.Proofs.YtiegkjimpclmaaaGreatDoorW.PrintLast Go.Proofs.YtiegkjimpclmaaaGreatDoorW.PrintMore
set_option linter.unusedVariables false
set_option linter.unusedSimpArgs false
set_option maxHeartbeats 8000000
set_option maxRecDepth 100000
namespace Go.Proofs.YtiegkjimpclmaaaGreatDoor.Pure
open Go.Proofs.YtiegkjimpclmaaaGreatDoor.P
theorem a_small : ∀ (k i : Nat) (parts : List ByteArray) (out x : ByteArray), impl_DataBytes.l0 k parts out (i : Int) = some (x, true) → (∀ y ∈ parts, y.size ≤ 1048576) → parts.length < 1099511627776 → (i < parts.length → parts.length = 4) ∧ ∀ j (h : j < parts.length), i ≤ j → parts[j].size ≤ 10
 | 0, i, parts, out, x, h, hs, hl => by simp [impl_DataBytes.l0] at h
 | k + 1, i, parts, out, x, h, hs, hl => by
  unfold impl_DataBytes.l0 at h
  by_cases c1 : (i : Int) < (parts.length : Int)
  · have hi : i < parts.length := by omega
    have hsz := hs _ (List.getElem_mem hi)
    obtain ⟨v, hn1, hn2⟩ := number_eq parts[i] 255 (by omega) (by omega) (by omega)
    rw [if_pos c1, if_pos (by omega), td_rd parts i hi, hn1, Option.bind_some] at h
    by_cases hb : (canL parts[i].data.toList && decide ((valL parts[i].data.toList : Int) ≤ 255)) = true
    · rw [if_pos hb] at h
      by_cases h4 : (parts.length : Int) = 4
      · rw [if_pos h4] at h
        obtain ⟨t, ht, h⟩ := Option.bind_eq_some_iff.mp h
        by_cases ho : out.size + t.size ≤ 9223372036854775807
        · rw [if_pos ho, w64n (by omega)] at h
          have ih := a_small k (i + 1) parts _ x h hs hl
          refine ⟨fun _ => by omega, fun j hj hij => ?_⟩
          by_cases e : j = i
          · subst e
            rw [Bool.and_eq_true] at hb
            have hc := hb.1
            unfold canL at hc
            simp only [Bool.and_eq_true, decide_eq_true_eq] at hc
            rw [size_len]
            exact hc.1.1.2
          · exact ih.2 j hj (by omega)
        · rw [if_neg ho] at h; cases h
      · rw [if_neg h4] at h
        cases (Prod.mk.inj (Option.some.inj h)).2
    · rw [if_neg hb] at h
      cases (Prod.mk.inj (Option.some.inj h)).2
  · exact ⟨fun h2 => absurd h2 (by omega), fun j hj hij => absurd hj (by omega)⟩
theorem sum_le : ∀ l : List (List UInt8), (∀ p ∈ l, p.length ≤ 10) → (l.map fun p => 1 + p.length).sum ≤ 11 * l.length
 | [], _ => Nat.le_refl _
 | x :: r, h => by
  have ih := sum_le r fun p hp => h p (List.mem_cons_of_mem _ hp)
  have hx := h x List.mem_cons_self
  rw [List.map_cons, List.sum_cons, List.length_cons]
  omega
theorem can_len {l : List UInt8} {m : Int} (h : (canL l && decide ((valL l : Int) ≤ m)) = true) : l.length ≤ 10 := by
 rw [Bool.and_eq_true] at h
 have hc := h.1
 unfold canL at hc
 simp only [Bool.and_eq_true, decide_eq_true_eq] at hc
 exact hc.1.1.2
theorem cut_sizes {s q1 q2 : ByteArray} {q3 : Bool} (hs : s.size ≤ 1048576) (h : strings_Cut.f s (⟨#[32]⟩ : ByteArray) = some (q1, q2, q3)) : q1.size + q2.size ≤ s.size ∧ s.size ≤ q1.size + q2.size + 1 := by
 unfold strings_Cut.f stringslite_Cut.f internal_stringslite_Index.f at h
 rw [if_pos (show (⟨#[32]⟩ : ByteArray).size = 1 from rfl)] at h
 simp only [Option.bind_some] at h
 rw [show List.headD (⟨#[32]⟩ : ByteArray).data.toList 0 = 32 from rfl, show (⟨#[32]⟩ : ByteArray).size = 1 from rfl] at h
 rcases place_or 32 s.data.toList with ⟨h1, _⟩ | ⟨p, r, h1, _, h3⟩
 · rw [h1, if_neg (by omega)] at h
   simp only [Option.bind_some, Option.some.injEq, Prod.mk.injEq] at h
   obtain ⟨rfl, rfl, _⟩ := h
   exact ⟨Nat.le_refl _, by show s.size ≤ s.size + 0 + 1; omega⟩
 · have hl : p.length + (r.length + 1) = s.size := by rw [size_len, h1]; simp
   rw [h3, show (((1 : Nat) : Int)) = 1 from rfl, w64n (by omega), if_pos (by omega), if_pos (by omega), if_pos (by omega), if_pos (by omega), if_pos (by omega), Int.toNat_natCast, Int.toNat_natCast] at h
   simp only [Option.bind_some, Option.some.injEq, Prod.mk.injEq] at h
   obtain ⟨rfl, rfl, _⟩ := h
   rw [ByteArray.size_extract, ByteArray.size_extract]
   omega
theorem data_small {k : Nat} {kind : Int} {s x : ByteArray} (hs : s.size ≤ 1048576) (h : impl_DataBytes.f k kind s = some (x, true)) : s.size ≤ 100 := by
 unfold impl_DataBytes.f at h
 by_cases c1 : kind = 1
 · rw [if_pos c1] at h
   have hsp : strings_Split.f s (⟨#[46]⟩ : ByteArray) = some ((splitL 46 s.data.toList).map mkB) := by
    unfold strings_Split.f
    rw [if_pos (show (⟨#[46]⟩ : ByteArray).size = 1 from rfl), if_pos (by omega)]
    rfl
   rw [hsp, Option.bind_some] at h
   have hne := splitL_ne 46 s.data.toList
   have hpl : 0 < (splitL 46 s.data.toList).length := List.length_pos_iff.2 hne
   have hlen : (splitL 46 s.data.toList).length ≤ s.size + 1 := by rw [size_len]; exact splitL_len _ _
   have hg := a_small k 0 _ _ _ h (by
    intro y hy
    obtain ⟨q, hq, rfl⟩ := List.mem_map.1 hy
    have := splitL_part 46 _ q hq
    rw [← size_len] at this
    rw [mkB_size]
    omega) (by rw [List.length_map]; omega)
   have h4 := hg.1 (by rw [List.length_map]; exact hpl)
   rw [List.length_map] at h4
   have hsum := sum_le (splitL 46 s.data.toList) (by
    intro p hp
    obtain ⟨j, hj, rfl⟩ := List.mem_iff_getElem.1 hp
    have := hg.2 j (by rw [List.length_map]; exact hj) (Nat.zero_le _)
    rw [List.getElem_map, mkB_size] at this
    exact this)
   rw [split_sum, h4, ← size_len] at hsum
   omega
 · rw [if_neg c1] at h
   by_cases c2 : kind = 2 ∨ kind = 5
   · rw [if_pos c2] at h
     unfold dataNs at h
     rw [target_impl, Option.bind_some] at h
     by_cases ht : targL s.data.toList = true
     · have := good_size (targ_good ht)
       rw [← size_len] at this
       omega
     · rw [if_neg ht] at h
       cases (Prod.mk.inj (Option.some.inj h)).2
   · rw [if_neg c2] at h
     by_cases c6 : kind = 6
     · rw [if_pos c6] at h
       unfold dataSoa at h
       obtain ⟨v, hn1, _⟩ := number_eq s 4294967295 (by omega) (by omega) (by omega)
       rw [hn1, Option.bind_some] at h
       by_cases hb : (canL s.data.toList && decide ((valL s.data.toList : Int) ≤ 4294967295)) = true
       · have := can_len hb
         rw [← size_len] at this
         omega
       · rw [if_neg hb] at h
         cases (Prod.mk.inj (Option.some.inj h)).2
     · rw [if_neg c6] at h
       by_cases c15 : kind = 15
       · rw [if_pos c15] at h
         unfold dataMx at h
         obtain ⟨⟨q1, q2, q3⟩, hc, h⟩ := Option.bind_eq_some_iff.mp h
         have hcut : q1.size + q2.size ≤ s.size ∧ s.size ≤ q1.size + q2.size + 1 := cut_sizes hs hc
         obtain ⟨v, hn1, _⟩ := number_eq q1 65535 (by omega) (by omega) (by omega)
         rw [hn1, Option.bind_some] at h
         by_cases hb : (canL q1.data.toList && decide ((valL q1.data.toList : Int) ≤ 65535)) = true
         · rw [if_pos hb, target_impl, Option.bind_some] at h
           by_cases ht : targL q2.data.toList = true
           · have h1 := good_size (targ_good ht)
             have h2 := can_len hb
             rw [← size_len] at h1 h2
             omega
           · rw [if_neg ht] at h
             cases (Prod.mk.inj (Option.some.inj h)).2
         · rw [if_neg hb] at h
           cases (Prod.mk.inj (Option.some.inj h)).2
       · rw [if_neg c15] at h
         by_cases c16 : kind = 16
         · rw [if_pos c16] at h
           unfold dataTxt at h
           by_cases h30 : (s.size : Int) > 30
           · rw [if_pos h30] at h
             cases (Prod.mk.inj (Option.some.inj h)).2
           · omega
         · rw [if_neg c16] at h
           cases (Prod.mk.inj (Option.some.inj h)).2
theorem data_full (kind : Int) (s : ByteArray) (hs : s.size ≤ 1048576) : ∃ q, Ev (fun k => spec_l3Bytes.f k kind s) q ∧ Ev (fun k => impl_DataBytes.f k kind s) (if q.2 = true then (q.1, true) else badD) ∧ (q.2 = true → s.size ≤ 100) := by
 obtain ⟨r, ⟨K, h1⟩, h2⟩ := data_both kind s hs
 have h1 : specData K kind s = some r := h1 K (Nat.le_refl _)
 unfold specData at h1
 obtain ⟨q, hq, h1⟩ := Option.bind_eq_some_iff.mp h1
 have hQ : Ev (fun k => spec_l3Bytes.f k kind s) q := Ev.of (fun k => spec_l3Bytes.mono _ _ _) (k := K) hq
 have er : (if q.2 = true then (q.1, true) else badD) = r := by
  by_cases hq2 : q.2 = true
  · rw [if_pos hq2] at h1 ⊢
    exact Option.some.inj h1
  · rw [if_neg hq2] at h1 ⊢
    exact Option.some.inj h1
 refine ⟨q, hQ, by rw [er]; exact h2, fun hq2 => ?_⟩
 rw [if_pos hq2] at er
 obtain ⟨K2, h2⟩ := h2
 have h3 : impl_DataBytes.f K2 kind s = some r := h2 K2 (Nat.le_refl _)
 rw [← er] at h3
 exact data_small hs h3
theorem goodrec_both (a : ByteArray) (b c : Int) (d : ByteArray) (ha : a.size ≤ 1048576) (hd : d.size ≤ 1048576) : ∃ r q, Ev (fun k => spec_GoodRecord.f k a b c d) r ∧ Ev (fun k => impl_GoodRecord.f k a b c d) r ∧ Ev (fun k => spec_l3Bytes.f k b d) q ∧ Ev (fun k => impl_DataBytes.f k b d) (if q.2 = true then (q.1, true) else badD) ∧ r = (q.2 && (goodL a.data.toList && decide (0 ≤ c ∧ c ≤ 100000))) ∧ (q.2 = true → d.size ≤ 100) := by
 obtain ⟨q, q1, q2, q3⟩ := data_full b d hd
 refine ⟨q.2 && (goodL a.data.toList && decide (0 ≤ c ∧ c ≤ 100000)), q, ?_, ?_, q1, q2, rfl, q3⟩
 · refine Ev.congr (fun k => rfl) (Ev.bind q1 ?_)
   cases hq : q.2 with
   | false => exact Ev.now _
   | true =>
    refine Ev.bind (specGood_ev a (by omega)) ?_
    cases hg : goodL a.data.toList with
    | false => exact Ev.now _
    | true =>
     simp only [if_true, within_spec, Option.bind_some, Bool.true_and]
     exact Ev.now _
 · cases hg : goodL a.data.toList with
   | false =>
    rw [Bool.false_and, Bool.and_false]
    refine Ev.congr (fun k => ?_) (Ev.now _)
    unfold impl_GoodRecord.f impl_GoodName.f
    rw [hg]
    rfl
   | true =>
    by_cases hc : 0 ≤ c ∧ c ≤ 100000
    · rw [decide_eq_true hc, Bool.true_and, Bool.and_true]
      by_cases h100 : (d.size : Int) > 100
      · have hf : q.2 = false := by
         rw [Bool.eq_false_iff]
         intro h
         have := q3 h
         omega
        rw [hf]
        refine Ev.congr (fun k => ?_) (Ev.now _)
        unfold impl_GoodRecord.f impl_GoodName.f
        rw [hg, Option.bind_some, if_pos rfl, within_eq, Option.bind_some, decide_eq_true hc, if_pos rfl, if_pos h100]
      · refine Ev.congr (f := fun k => (impl_DataBytes.f k b d).bind fun bt237 => (some bt237.2)) (fun k => ?_) (Ev.bind q2 ?_)
        · unfold impl_GoodRecord.f impl_GoodName.f
          rw [hg, Option.bind_some, if_pos rfl, within_eq, Option.bind_some, decide_eq_true hc, if_pos rfl, if_neg h100]
        · cases q.2 with
          | false => exact Ev.now _
          | true => exact Ev.now _
    · rw [decide_eq_false hc, Bool.and_false, Bool.and_false]
      refine Ev.congr (fun k => ?_) (Ev.now _)
      unfold impl_GoodRecord.f impl_GoodName.f
      rw [hg, Option.bind_some, if_pos rfl, within_eq, Option.bind_some, decide_eq_false hc, if_neg (by simp)]
theorem data_kind {k : Nat} {kind : Int} {s x : ByteArray} (h : impl_DataBytes.f k kind s = some (x, true)) : 1 ≤ kind ∧ kind ≤ 16 := by
 unfold impl_DataBytes.f at h
 by_cases c : 1 ≤ kind ∧ kind ≤ 16
 · exact c
 · rw [if_neg (by omega), if_neg (by omega), if_neg (by omega), if_neg (by omega), if_neg (by omega)] at h
   cases (Prod.mk.inj (Option.some.inj h)).2
theorem good_parts (a : ByteArray) (b c : Int) (d : ByteArray) (ha : a.size ≤ 1048576) (hd : d.size ≤ 1048576) (h : Ev (fun k => impl_GoodRecord.f k a b c d) true) : a.size ≤ 60 ∧ goodL a.data.toList = true ∧ (1 ≤ b ∧ b ≤ 16) ∧ (0 ≤ c ∧ c ≤ 100000) ∧ d.size ≤ 100 := by
 obtain ⟨r, q, r1, r2, q1, ⟨K, q2⟩, hr, hs⟩ := goodrec_both a b c d ha hd
 have e := Ev.unique h r2
 subst e
 have hr := hr.symm
 rw [Bool.and_eq_true, Bool.and_eq_true, decide_eq_true_eq] at hr
 have hK : impl_DataBytes.f K b d = some (if q.2 = true then (q.1, true) else badD) := q2 K (Nat.le_refl _)
 rw [if_pos hr.1] at hK
 have := good_size hr.2.1
 rw [← size_len] at this
 exact ⟨this, hr.2.1, data_kind hK, hr.2.2, hs hr.1⟩
theorem szRecAt (left : Int) (h0 : 0 ≤ left) (h1 : left ≤ 1048576) (a : ByteArray) (b c : Int) (d : ByteArray) (ha : a.size ≤ maxLen) (hd : d.size ≤ maxLen) : ∃ t, laws_szRecord.f a b c d left = some t ∧ (0 ≤ t → t ≤ left ∧ a.size ≤ 1048576 ∧ d.size ≤ 1048576) := by
 simp only [maxLen] at ha hd
 have h2 : wrap64 (left - (a.size : Int)) = left - (a.size : Int) := by unfold wrap64; omega
 unfold laws_szRecord.f
 rw [h2]
 by_cases c1 : left - (a.size : Int) < 0
 · exact ⟨-1, by rw [if_pos c1], fun h => by omega⟩
 · have h3 : wrap64 (left - (a.size : Int) - (d.size : Int)) = left - (a.size : Int) - (d.size : Int) := by unfold wrap64; omega
   rw [h3]
   by_cases c2 : left - (a.size : Int) - (d.size : Int) < 0
   · exact ⟨-1, by rw [if_neg c1, if_pos c2], fun h => by omega⟩
   · exact ⟨_, by rw [if_neg c1, if_neg c2], fun h => by omega⟩
end Go.Proofs.YtiegkjimpclmaaaGreatDoor.Pure
namespace Go.Proofs.YtiegkjimpclmaaaGreatDoor.P
attribute [local go_sem] max2_int min2_int max_two min_two max_three min_three max_four min_four
def spec_l4Names.l0 : Nat → ByteArray → List ByteArray → Int → Int → Option (ByteArray)
 | 0, _, _, _, _ => none
 | k + 1, x3, x6, x7, x8 => if x8 < x7 then (if 0 ≤ x8 then (if x8 < (x6.length : Int) then ((spec_l2Put.f k x3 (rdOf ByteArray.empty x6 x8)).bind fun t915 => (spec_l4Names.l0 k t915 x6 x7 (wrap64 (x8 + 1)))) else (none)) else (none)) else (some x3)
def spec_l4Names.f (k : Nat) (l0 : List ByteArray) : Option (ByteArray) := spec_l4Names.l0 k (⟨#[]⟩ : ByteArray) l0 (l0.length : Int) 0
theorem spec_l4Names.calls (k : Nat) (A0 : Option Addr) (c0 : Nat) (l0 : List ByteArray) (r : ByteArray) (w : World) (hr0 : Kd.C Kd.string w A0 l0.length l0) (hc0 : l0.length ≤ c0) (h : spec_l4Names.f k l0 = some r) :
 Calls Tryz.prog 159 #[.slice A0 l0.length c0] w fun e w' => e = .returned (.string r) ∧ Below w.heap.size w w' := by
 have HR0 := a0_ hr0
 have HC0 := a0_ hc0
 clear hr0 hc0
 have HB := a0_ (Below.refl w.heap.size w)
 have H := h
 clear h
 unfold spec_l4Names.f at H
 have H' := a0_ H
 clear H
 go_enter Tryz.func159, Tryz.ntmps159
 go_wp2
 go_loopg [3, 8] k (fun kq v3 v8 w' => ∃ (x3_1 : ByteArray) (x8_1 : Int), v3 = .string x3_1 ∧ v8 = .int .i64 x8_1 ∧ Aside0 (spec_l4Names.l0 kq x3_1 l0 (l0.length : Int) x8_1 = some r) ∧ Aside0 (kq ≤ k) ∧ Aside0 (Below w.heap.size w w'))
 case atStart => exact ⟨((⟨#[]⟩ : ByteArray)), (0), rs_, rs_, H', ⟨Nat.le_refl _⟩, ⟨bq0_⟩⟩
 case round =>
  clear H'
  obtain ⟨x3_1, x8_1, rfl, rfl, HA, HK1, HB⟩ := hrel
  cases gk with
  | zero => exact absurd HA.out (by simp [spec_l4Names.l0])
  | succ k1 =>
   have H := HA.out
   clear HA
   simp only [spec_l4Names.l0] at H
   by_cases c2 : x8_1 < (l0.length : Int)
   case neg =>
    rw [if_neg c2] at H
    have c2b0 := decide_eq_false c2
    clear c2
    obtain rfl := Option.some.inj H
    go_wp2
    go_ret
    exact ⟨rr_, bq0_⟩
   rw [if_pos c2] at H
   have c2b0 := decide_eq_true c2
   clear c2
   by_cases c3 : 0 ≤ x8_1
   case neg =>
    rw [if_neg c3] at H
    exact absurd H (by simp)
   rw [if_pos c3] at H
   have c3b0 := decide_eq_true c3
   clear c3
   by_cases c4 : x8_1 < (l0.length : Int)
   case neg =>
    rw [if_neg c4] at H
    exact absurd H (by simp)
   rw [if_pos c4] at H
   have c4b0 := decide_eq_true c4
   clear c4
   obtain ⟨t915, A5, H⟩ := ob_ H
   have H' := a0_ H
   clear H
   have p914 := t0_ (x8_1)
   have q914 := tl_ (x8_1) (l0.length)
   obtain ⟨ad914, e914, hx914_0⟩ := Kd.at_string HR0.out x8_1 (of_eq_true p914) (of_eq_true q914)
   cases e914
   replace hx914_0 := (HB.out.cell (World.block_lt_of_cell? w _ hx914_0)).trans hx914_0
   go_wp2_with (first | ((with_reducible refine gt_ 196 rfl ?_); refine gs_ 14 Tryz.func196 #[.string x3_1, .string (rdOf ByteArray.empty l0 x8_1)] ?_; (with_reducible refine (spec_l2Put.calls k1 x3_1 (rdOf ByteArray.empty l0 x8_1) t915 _ A5.out).mono ?_); rintro e w6 ⟨rfl, hb⟩; refine ⟨_, rfl, ?_⟩; replace HB := a0_ (below_step bq0_ hb); clear hb))
   go_roundg k1
   case measure => have := HK1.out; omega
   case rel => exact ⟨(t915), (wrap64 (x8_1 + 1)), rs_, rs_, H', jl_ HK1, ⟨bq0_⟩⟩
end Go.Proofs.YtiegkjimpclmaaaGreatDoor.P
namespace Go.Proofs.YtiegkjimpclmaaaGreatDoor.P
def putP (k : Nat) (b rest : ByteArray) (x : Int) : Bool := match impl_takeName.f k b x with
 | some t => t.2.2.2 && (t.1.toList == rest.toList)
 | none => false
def putDef (k : Nat) (b : ByteArray) (places : List Int) : Bool := places.all fun x => (impl_takeName.f k b x).isSome
def impl_putName.l0 : Nat → ByteArray → List Int → ByteArray → ByteArray → Option ByteArray
 | 0, _, _, _, _ => none
 | k + 1, b, places, ahead, rest => if rest.toList = ([] : List UInt8) then (if b.size + ahead.size < 1099511627776 then some ((b ++ ahead) ++ (⟨#[0]⟩ : ByteArray)) else none) else (if putDef k b places = true then (if 0 ≤ idxP (putP k b rest) places 0 then (if b.size + ahead.size < 1099511627776 then some ((b ++ ahead) ++ strOfNums [(wrap64 (192 + (wrap64 (Int.tdiv (rd places (idxP (putP k b rest) places 0)) 256)))) % 256, (rd places (idxP (putP k b rest) places 0)) % 256]) else none) else ((strings_Cut.f rest (⟨#[46]⟩ : ByteArray)).bind fun c => (if ahead.size + c.1.size < 1099511627776 then ((impl_parentOf.f rest).bind fun p => impl_putName.l0 k b places (ahead ++ (strOfNums [((c.1.size : Int)) % 256] ++ c.1)) p) else none))) else none)
def impl_putName.f (k : Nat) (b s : ByteArray) : Option ByteArray := (impl_suffixesOf.f k b).bind fun places => impl_putName.l0 k b places (⟨#[]⟩ : ByteArray) s
theorem cell_new (w : World) (v : Value) (t : TypeId) : (w.alloc (Obj.cells #[v] t)).cell? ⟨w.heap.size, 0, none⟩ = some v := by
 unfold World.cell?
 rw [heap_alloc_new]
 simp
theorem put_next (w3 : World) (c1 : Obj) (rest par : ByteArray) (t : TypeId) (nd : Nat) :
 Below w3.heap.size w3 ((((w3.alloc c1).alloc (Obj.cells #[.string rest] t)).drewN nd).setCell ⟨w3.heap.size + 1, 0, none⟩ (.string par)) ∧ ((((w3.alloc c1).alloc (Obj.cells #[.string rest] t)).drewN nd).setCell ⟨w3.heap.size + 1, 0, none⟩ (.string par)).cell? ⟨w3.heap.size + 1, 0, none⟩ = some (.string par) := by
 have hs : (w3.alloc c1).heap.size = w3.heap.size + 1 := by simp [World.alloc, -World.alloc_eq]
 have hq0 : ((w3.alloc c1).alloc (Obj.cells #[.string rest] t)).heap[w3.heap.size + 1]? = some (.cells #[.string rest] t) := by rw [← hs]; exact heap_alloc_new _ _
 have hq : (((w3.alloc c1).alloc (Obj.cells #[.string rest] t)).drewN nd).heap[w3.heap.size + 1]? = some (.cells #[.string rest] t) := hq0
 have b1 : Below w3.heap.size w3 (((w3.alloc c1).alloc (Obj.cells #[.string rest] t)).drewN nd) := pw_below_drewN (below_alloc (below_alloc (Below.refl _ _) _) _) nd
 rw [setCell_eq_setRow _ _ _ _ _ _ _ hq]
 refine ⟨⟨b1.os, b1.tape, b1.output, by rw [setRow_size]; exact b1.size, fun k hk => by rw [setRow_other _ _ _ _ (by omega)]; exact b1.block k hk⟩, ?_⟩
 unfold World.cell?
 rw [setRow_heap _ _ _ _ _ _ hq]
 simp
theorem put_pred (k : Nat) (b rest : ByteArray) (places : List Int) (hd : putDef k b places = true) (W : World) (gb gr : Nat)
 (hb : W.cell? ⟨gb, 0, none⟩ = some (.string b)) (hr : W.cell? ⟨gr, 0, none⟩ = some (.string rest)) :
 PredB 243 #[.pointer (some ⟨gb, 0, none⟩), .pointer (some ⟨gr, 0, none⟩)] (.int .i64) (putP k b rest) places W := by
 intro x hx W' hW
 have h1 := List.all_eq_true.1 hd x hx
 obtain ⟨t, ht⟩ := Option.isSome_iff_exists.1 h1
 obtain ⟨t1, t2, t3, t4⟩ := t
 have e : putP k b rest x = (t4 && (t1.toList == rest.toList)) := by unfold putP; rw [ht]
 rw [e]
 exact put_closure k b rest x t1 t2 t3 t4 ht W' gb gr ((hW.cell (World.block_lt_of_cell? _ _ hb)).trans hb) ((hW.cell (World.block_lt_of_cell? _ _ hr)).trans hr)
theorem idxP_lt {α : Type} (p : α → Bool) (xs : List α) : idxP p xs 0 < (xs.length : Int) := by
 have : ∀ (xs : List α) (i : Int), 0 ≤ i → idxP p xs i < i + (xs.length : Int) ∨ idxP p xs i = -1 := by
  intro xs
  induction xs with
  | nil => intro i _; exact .inr rfl
  | cons x xs ih =>
   intro i h0
   unfold idxP
   split
   · left; simp only [List.length_cons]; omega
   · rcases ih (i + 1) (by omega) with h | h
     · left; simp only [List.length_cons]; omega
     · exact .inr h
 rcases this xs 0 (by omega) with h | h
 · omega
 · rw [h]; omega
set_option maxHeartbeats 4000000 in
theorem put_walk (k : Nat) (b s : ByteArray) (places : List Int) (r : ByteArray) (w : World) (h : impl_suffixesOf.f k b = some places) (h2 : impl_putName.l0 k b places (⟨#[]⟩ : ByteArray) s = some r) :
 Calls Tryz.prog 199 #[.string b, .string s] w fun e w' => e = .returned (.string r) ∧ Below w.heap.size w w' := by
 have sc := fun W => impl_suffixesOf.calls k b places W h
 have H' := Aside0.mk h2
 clear h h2
 go_enter Tryz.func199, Tryz.ntmps199
 go_wp2_with (go_at_call 240; refine (sc _).mono ?_; rintro e w1 ⟨v, rfl, hR, hbw⟩; have HO := Aside0.mk hR; have HB1 := Aside0.mk hbw; clear hR hbw; obtain ⟨A, c, rfl⟩ := Kd.R_slice HO.out)
 go_loopg [6, 7] k (fun kq v6 v7 wr => ∃ (ahead rest : ByteArray) (gr : Nat), v6 = .string ahead ∧ v7 = .pointer (some ⟨gr, 0, none⟩) ∧ Aside0 (impl_putName.l0 kq b places ahead rest = some r) ∧ Aside0 (kq ≤ k) ∧ Aside0 (Kd.C (Kd.int .i64) wr A places.length places) ∧ Aside0 (wr.cell? ⟨w.heap.size, 0, none⟩ = some (.string b)) ∧ Aside0 (wr.cell? ⟨gr, 0, none⟩ = some (.string rest)) ∧ Aside0 (w.heap.size ≤ gr) ∧ Aside0 (Below w.heap.size w wr))
 case atStart =>
  have hc0 : (w.alloc (Obj.cells #[.string b] 9)).cell? ⟨w.heap.size, 0, none⟩ = some (.string b) := cell_new w _ _
  have hc1 := (HB1.out.cell (World.block_lt_of_cell? _ _ hc0)).trans hc0
  have hw1 : w.heap.size ≤ w1.heap.size := Nat.le_trans (below_alloc (Below.refl _ w) _).size HB1.out.size
  exact ⟨(⟨#[]⟩ : ByteArray), s, w1.heap.size, rfl, rfl, H', ⟨Nat.le_refl _⟩, ⟨(Kd.R_reads' (Kd.R_alloc HO.out _)).2.2⟩, ⟨(World.cell?_alloc_lt _ _ _ (World.block_lt_of_cell? _ _ hc1)).trans hc1⟩, ⟨cell_new w1 _ _⟩, ⟨hw1⟩, ⟨below_alloc (below_then (below_alloc (Below.refl _ w) _) (below_alloc (Below.refl _ w) _).size HB1.out) _⟩⟩
 case round =>
  obtain ⟨ahead, rest, gr, rfl, rfl, HA, HK1, HC, HB, HR, HG, BW⟩ := hrel
  cases gk with
  | zero => exact absurd HA.out (by simp [impl_putName.l0])
  | succ k1 =>
   have H := HA.out
   clear HA
   simp only [impl_putName.l0] at H
   by_cases c1 : rest.toList = ([] : List UInt8)
   · rw [if_pos c1] at H
     have c1b : (rest.toList == ([] : List UInt8)) = true := by rw [c1]; rfl
     have c1c : (rest.toList != ([] : List UInt8)) = false := by rw [c1]; rfl
     by_cases c4 : b.size + ahead.size < 1099511627776
     · rw [if_pos c4] at H
       have c5a := eq_true (show b.size + ahead.size ≤ 9223372036854775807 by omega)
       have c5b : decide (b.size + ahead.size ≤ 9223372036854775807) = true := decide_eq_true (by omega)
       have c5c : (9223372036854775807 < b.size + ahead.size) = False := eq_false (by omega)
       have hbs : (b ++ ahead).size = b.size + ahead.size := ByteArray.size_append
       have c6a := eq_true (show b.size + ahead.size + 1 ≤ 9223372036854775807 by omega)
       have c6b : decide (b.size + ahead.size + 1 ≤ 9223372036854775807) = true := decide_eq_true (by omega)
       have c6c : (9223372036854775807 < b.size + ahead.size + 1) = False := eq_false (by omega)
       clear hbs
       have hb0 := HB.out
       have hr0 := HR.out
       go_wp2
       go_ret
       obtain rfl := Option.some.inj H
       exact ⟨rfl, BW.out⟩
     · rw [if_neg c4] at H
       cases H
   · rw [if_neg c1] at H
     have c1b : (rest.toList == ([] : List UInt8)) = false := beq_eq_false_iff_ne.mpr c1
     have c1c : (rest.toList != ([] : List UInt8)) = true := by rw [bne, c1b]; rfl
     by_cases c2 : putDef k1 b places = true
     · rw [if_pos c2] at H
       have eg : ∀ args w, (callFunc 243 args).run Tryz.prog w = .ok (.enter 243 args) w := enters_of Tryz.func243 (by kernel_rfl) rfl
       have ic := fun W (hbW : Below wr.heap.size wr W) => index_int A c places 243 #[.pointer (some ⟨w.heap.size, 0, none⟩), .pointer (some ⟨gr, 0, none⟩)] (putP k1 b rest) W (Kd.C_below HC.out hbW) eg (put_pred k1 b rest places c2 W w.heap.size gr ((hbW.cell (World.block_lt_of_cell? _ _ HB.out)).trans HB.out) ((hbW.cell (World.block_lt_of_cell? _ _ HR.out)).trans HR.out))
       have hb0 := HB.out
       have hr0 := HR.out
       generalize hi : idxP (putP k1 b rest) places 0 = i at H ic
       have HI := Aside0.mk hi
       clear hi
       have ic0 := ic wr (Below.refl _ _)
       clear ic eg
       by_cases c3 : 0 ≤ i
       · rw [if_pos c3] at H
         have c3b : decide (0 ≤ i) = true := decide_eq_true c3
         have hil : i < (places.length : Int) := by have := idxP_lt (putP k1 b rest) places; rw [HI.out] at this; omega
         by_cases c4 : b.size + ahead.size < 1099511627776
         · rw [if_pos c4] at H
           obtain ⟨ad, e0, hx0⟩ := Kd.at_int HC.out i c3 hil
           cases e0
           have c5a := eq_true (show b.size + ahead.size ≤ 9223372036854775807 by omega)
           have c5b : decide (b.size + ahead.size ≤ 9223372036854775807) = true := decide_eq_true (by omega)
           have c5c : (9223372036854775807 < b.size + ahead.size) = False := eq_false (by omega)
           generalize rd places i = pv at H hx0
           obtain ⟨y, hy⟩ : ∃ y : List Int, y = [(wrap64 (192 + (wrap64 (Int.tdiv pv 256)))) % 256, pv % 256] := ⟨_, rfl⟩
           rw [← hy] at H
           have hys : (strOfNums y).size = 2 := by rw [hy, strOfNums_size]; rfl
           have Ny := Aside0.mk hy
           clear hy
           have hbs : (b ++ ahead).size = b.size + ahead.size := ByteArray.size_append
           have c6a := eq_true (show b.size + ahead.size + (strOfNums y).size ≤ 9223372036854775807 by omega)
           have c6b : decide (b.size + ahead.size + (strOfNums y).size ≤ 9223372036854775807) = true := decide_eq_true (by omega)
           have c6c : (9223372036854775807 < b.size + ahead.size + (strOfNums y).size) = False := eq_false (by omega)
           have c3z := eq_true c3
           have hilz := eq_true hil
           clear hys hbs
           go_wp2_with (go_at_call 242; refine ic0.mono ?_; rintro e w2 ⟨rfl, hb2⟩)
           have hb3 := ((hb2.cell (World.block_lt_of_cell? _ _ hb0)).trans hb0)
           have hx := ((hb2.cell (World.block_lt_of_cell? _ _ hx0)).trans hx0)
           have BW2 := Aside0.mk (below_drew1 (below_then BW.out BW.out.size hb2))
           refine start_ (n := 19) (S := fun w' => w'.cell? ⟨w.heap.size, 0, none⟩ = some (.string b) ∧ w'.cell? (ad.add i.toNat) = some (.int .i64 pv)) (ds := []) #[false, false, false, false, false, false, false, false, false, false, false, false, false, false, false, false, false, false, false] (by kernel_rfl) rfl rfl ⟨hb3, hx⟩ (fun hHeld => ?_)
           generalize hw3 : w2.drew = w3 at BW2 hb3 hx hHeld ⊢
           refine pure_ (i := 1) (N := some 25) (v := ?_) (a' := ?_) #[false, true, false, false, false, false, false, false, false, false, false, false, false, false, false, false, false, false, false] rfl rfl (by kernel_rfl) (fun _ _ _ h => h) (Or.inl ⟨by rfl, ?_⟩) ?_ ?_
           rotate_left
           · intro w'
             go_simp
             with_reducible rfl
           rotate_left
           · simp only [Act.put, List.setIfInBounds_toArray, List.set_cons_zero, List.set_cons_succ, i64_w, i32_w]
             rfl
           refine pure_ (i := 3) (N := some 27) (v := ?_) (a' := ?_) #[false, true, false, true, false, false, false, false, false, false, false, false, false, false, false, false, false, false, false] rfl rfl (by kernel_rfl) (fun _ _ _ h => h) (Or.inl ⟨by rfl, ?_⟩) ?_ ?_
           rotate_left
           · intro w'
             go_simp
             with_reducible rfl
           rotate_left
           · simp only [Act.put, List.setIfInBounds_toArray, List.set_cons_zero, List.set_cons_succ, i64_w, i32_w]
             rfl
           refine pure_ (i := 4) (N := some 28) (v := ?_) (a' := ?_) #[false, true, false, true, true, false, false, false, false, false, false, false, false, false, false, false, false, false, false] rfl rfl (by kernel_rfl) (fun _ _ _ h => h) (Or.inl ⟨by rfl, ?_⟩) ?_ ?_
           rotate_left
           · intro w'
             go_simp
             with_reducible rfl
           rotate_left
           · simp only [Act.put, List.setIfInBounds_toArray, List.set_cons_zero, List.set_cons_succ, i64_w, i32_w]
             rfl
           refine pure_ (i := 5) (N := some 29) (v := ?_) (a' := ?_) #[false, true, false, true, true, true, false, false, false, false, false, false, false, false, false, false, false, false, false] rfl rfl (by kernel_rfl) (fun _ _ _ h => h) (Or.inl ⟨by rfl, ?_⟩) ?_ ?_
           rotate_left
           · intro w'
             go_simp
             with_reducible rfl
           rotate_left
           · simp only [Act.put, List.setIfInBounds_toArray, List.set_cons_zero, List.set_cons_succ, i64_w, i32_w]
             rfl
           refine pure_ (i := 10) (N := some 34) (v := ?_) (a' := ?_) #[false, true, false, true, true, true, false, false, false, false, true, false, false, false, false, false, false, false, false] rfl rfl (by kernel_rfl) (fun _ _ _ h => h) (Or.inl ⟨by rfl, ?_⟩) ?_ ?_
           rotate_left
           · intro w'
             go_simp
             with_reducible rfl
           rotate_left
           · simp only [Act.put, List.setIfInBounds_toArray, List.set_cons_zero, List.set_cons_succ, i64_w, i32_w]
             rfl
           refine pure_ (i := 11) (N := some 35) (v := ?_) (a' := ?_) #[false, true, false, true, true, true, false, false, false, false, true, true, false, false, false, false, false, false, false] rfl rfl (by kernel_rfl) (fun _ _ _ h => h) (Or.inl ⟨by rfl, ?_⟩) ?_ ?_
           rotate_left
           · intro w'
             go_simp
             with_reducible rfl
           rotate_left
           · simp only [Act.put, List.setIfInBounds_toArray, List.set_cons_zero, List.set_cons_succ, i64_w, i32_w]
             rfl
           refine pure_ (i := 12) (N := some 36) (v := ?_) (a' := ?_) #[false, true, false, true, true, true, false, false, false, false, true, true, true, false, false, false, false, false, false] rfl rfl (by kernel_rfl) (fun _ _ _ h => h) (Or.inl ⟨by rfl, ?_⟩) ?_ ?_
           rotate_left
           · intro w'
             go_simp
             with_reducible rfl
           rotate_left
           · simp only [Act.put, List.setIfInBounds_toArray, List.set_cons_zero, List.set_cons_succ, i64_w, i32_w]
             rfl
           refine take_ (i := 0) (N := some 24) (v := ?_) (a' := ?_) #[true, true, false, true, true, true, false, false, false, false, true, true, true, false, false, false, false, false, false] rfl rfl (by kernel_rfl) (fun _ _ _ h => h) (Or.inl ⟨by rfl, ?_⟩) hHeld ?_ ?_
           rotate_left
           · rintro w' ⟨s0, s1⟩
             go_simp
             with_reducible rfl
           rotate_left
           · simp only [Act.put, List.setIfInBounds_toArray, List.set_cons_zero, List.set_cons_succ, i64_w, i32_w]
             rfl
           refine pure_ (i := 2) (N := some 26) (v := ?_) (a' := ?_) #[true, true, true, true, true, true, false, false, false, false, true, true, true, false, false, false, false, false, false] rfl rfl (by kernel_rfl) (fun _ _ _ h => h) (Or.inl ⟨by rfl, ?_⟩) ?_ ?_
           rotate_left
           · intro w'
             go_simp
             with_reducible rfl
           rotate_left
           · simp only [Act.put, List.setIfInBounds_toArray, List.set_cons_zero, List.set_cons_succ, i64_w, i32_w]
             rfl
           refine take_ (i := 6) (N := some 30) (v := ?_) (a' := ?_) #[true, true, true, true, true, true, true, false, false, false, true, true, true, false, false, false, false, false, false] rfl rfl (by kernel_rfl) (fun _ _ _ h => h) (Or.inl ⟨by rfl, ?_⟩) hHeld ?_ ?_
           rotate_left
           · rintro w' ⟨s0, s1⟩
             go_simp
             with_reducible rfl
           rotate_left
           · simp only [Act.put, List.setIfInBounds_toArray, List.set_cons_zero, List.set_cons_succ, i64_w, i32_w]
             rfl
           refine pure_ (i := 7) (N := some 31) (v := ?_) (a' := ?_) #[true, true, true, true, true, true, true, true, false, false, true, true, true, false, false, false, false, false, false] rfl rfl (by kernel_rfl) (fun _ _ _ h => h) (Or.inl ⟨by rfl, ?_⟩) ?_ ?_
           rotate_left
           · intro w'
             go_simp
             with_reducible rfl
           rotate_left
           · simp only [Act.put, List.setIfInBounds_toArray, List.set_cons_zero, List.set_cons_succ, i64_w, i32_w]
             rfl
           refine pure_ (i := 8) (N := some 32) (v := ?_) (a' := ?_) #[true, true, true, true, true, true, true, true, true, false, true, true, true, false, false, false, false, false, false] rfl rfl (by kernel_rfl) (fun _ _ _ h => h) (Or.inl ⟨by rfl, ?_⟩) ?_ ?_
           rotate_left
           · intro w'
             go_simp
             with_reducible rfl
           rotate_left
           · simp only [Act.put, List.setIfInBounds_toArray, List.set_cons_zero, List.set_cons_succ, i64_w, i32_w]
             rfl
           refine pure_ (i := 9) (N := some 33) (v := ?_) (a' := ?_) #[true, true, true, true, true, true, true, true, true, true, true, true, true, false, false, false, false, false, false] rfl rfl (by kernel_rfl) (fun _ _ _ h => h) (Or.inl ⟨by rfl, ?_⟩) ?_ ?_
           rotate_left
           · intro w'
             go_simp
             with_reducible rfl
           rotate_left
           · simp only [Act.put, List.setIfInBounds_toArray, List.set_cons_zero, List.set_cons_succ, i64_w, i32_w]
             rfl
           refine take_ (i := 13) (N := some 37) (v := ?_) (a' := ?_) #[true, true, true, true, true, true, true, true, true, true, true, true, true, true, false, false, false, false, false] rfl rfl (by kernel_rfl) (fun _ _ _ h => h) (Or.inl ⟨by rfl, ?_⟩) hHeld ?_ ?_
           rotate_left
           · rintro w' ⟨s0, s1⟩
             go_simp
             with_reducible rfl
           rotate_left
           · simp only [Act.put, List.setIfInBounds_toArray, List.set_cons_zero, List.set_cons_succ, i64_w, i32_w]
             rfl
           refine pure_ (i := 14) (N := some 38) (v := ?_) (a' := ?_) #[true, true, true, true, true, true, true, true, true, true, true, true, true, true, true, false, false, false, false] rfl rfl (by kernel_rfl) (fun _ _ _ h => h) (Or.inl ⟨by rfl, ?_⟩) ?_ ?_
           rotate_left
           · intro w'
             go_simp
             with_reducible rfl
           rotate_left
           · simp only [Act.put, List.setIfInBounds_toArray, List.set_cons_zero, List.set_cons_succ, i64_w, i32_w]
             rfl
           refine one_ (i := 15) (N := some 39) #[true, true, true, true, true, true, true, true, true, true, true, true, true, true, true, true, false, false, false] rfl rfl (by kernel_rfl) (by decide) (fun K hK => ?_)
           refine Kd.R_lit_step (Kd.int .u8) _ 5 ?hg (N := 39) ?hd (xs := ([(wrap64 (192 + (wrap64 (Int.tdiv pv 256)))) % 256, pv % 256] : List Int)) (inner := [.int .u8 ((wrap64 (192 + (wrap64 (Int.tdiv pv 256)))) % 256), .int .u8 (pv % 256)]) (ok := fun _ => True) (okp := fun _ => True) ?hr ?hp (fun _ hk => hk) trivial (Below.refl _ _) (Nat.le_refl _) (by simp) ?_; (case hd => rfl); (case hg => rfl); (case hr => first | (go_simp; done) | (go_simp; rfl)); (case hp => exact (Reps.one (show Kd.M (Kd.int .u8) _ _ _ ((wrap64 (192 + (wrap64 (Int.tdiv pv 256)))) % 256) [.int .u8 ((wrap64 (192 + (wrap64 (Int.tdiv pv 256)))) % 256)] from rfl) (Reps.one (show Kd.M (Kd.int .u8) _ _ _ (pv % 256) [.int .u8 (pv % 256)] from rfl) (Reps.none _ _))))
           intro vL wL hoL hb hg_ hnew_
           have HS0_ := (hb.cell (World.block_lt_of_cell? _ _ (hHeld.1))).trans (hHeld.1)
           have HS1_ := (hb.cell (World.block_lt_of_cell? _ _ (hHeld.2))).trans (hHeld.2)
           (first | rw [← Ny.out] at hoL | (simp only [Int.reduceToNat] at hoL; rw [← Ny.out] at hoL)); have HLIT := Aside0.mk hoL
           have n4_ := Aside0.mk (below_step BW2.out hb)
           clear BW2
           have BW2 := n4_
           clear n4_ hg_ hnew_ hb hoL
           refine hK.out _ _ ⟨HS0_, HS1_⟩ (fun hHeld => ?_)
           clear hK K
           refine norm_ (a' := ?_) ?_ ?_
           rotate_left
           · show Act.put _ (some 39) _ = _
             simp only [Act.put, List.setIfInBounds_toArray, List.set_cons_zero, List.set_cons_succ, i64_w, i32_w]
             rfl
           refine one_ (i := 16) (N := some 40) #[true, true, true, true, true, true, true, true, true, true, true, true, true, true, true, true, true, false, false] rfl rfl (by kernel_rfl) (by decide) (fun K hK => ?_)
           have hcvL := own_string (P := Tryz.prog) Tryz.underlying43 Tryz.underlying5 Tryz.underlying9 (Kd.own_of_R HLIT.out)
           refine value_ (w1 := ?_) (v := ?_) (by rfl) rfl ?_ ?_
           rotate_left 2
           · go_simp
             constructor
             · rfl
             · rfl
           clear hcvL
           refine hK.out _ _ ⟨hHeld.1, hHeld.2⟩ (fun hHeld => ?_)
           clear hK K
           refine norm_ (a' := ?_) ?_ ?_
           rotate_left
           · show Act.put _ (some 40) _ = _
             simp only [Act.put, List.setIfInBounds_toArray, List.set_cons_zero, List.set_cons_succ, i64_w, i32_w]
             rfl
           refine pure_ (i := 17) (N := some 41) (v := ?_) (a' := ?_) #[true, true, true, true, true, true, true, true, true, true, true, true, true, true, true, true, true, true, false] rfl rfl (by kernel_rfl) (fun _ _ _ h => h) (Or.inl ⟨by rfl, ?_⟩) ?_ ?_
           rotate_left
           · intro w'
             go_simp
             with_reducible rfl
           rotate_left
           · simp only [Act.put, List.setIfInBounds_toArray, List.set_cons_zero, List.set_cons_succ, i64_w, i32_w]
             rfl
           refine pure_ (i := 18) (N := some 4) (v := ?_) (a' := ?_) #[true, true, true, true, true, true, true, true, true, true, true, true, true, true, true, true, true, true, true] rfl rfl (by kernel_rfl) (fun _ _ _ h => h) (Or.inl ⟨by rfl, ?_⟩) ?_ ?_
           rotate_left
           · intro w'
             go_simp
             with_reducible rfl
           rotate_left
           · simp only [Act.put, List.setIfInBounds_toArray, List.set_cons_zero, List.set_cons_succ, i64_w, i32_w]
             rfl
           refine done_ (by kernel_rfl) ?_
           go_wp2
           go_ret
           obtain rfl := Option.some.inj H
           exact ⟨rfl, BW2.out⟩
         · rw [if_neg c4] at H
           cases H
       · rw [if_neg c3] at H
         have c3b : decide (0 ≤ i) = false := decide_eq_false c3
         replace H := Option.bind_eq_some_iff.mp H
         obtain ⟨⟨q1, q2, q3⟩, hcut, H⟩ := H
         replace H : (if ahead.size + q1.size < 1099511627776 then ((impl_parentOf.f rest).bind fun p => impl_putName.l0 k1 b places (ahead ++ (strOfNums [((q1.size : Int)) % 256] ++ q1)) p) else none) = some r := H
         by_cases c4 : ahead.size + q1.size < 1099511627776
         · rw [if_pos c4] at H
           replace H := Option.bind_eq_some_iff.mp H
           obtain ⟨par, hpar, H⟩ := H
           have cutc := fun W => strings_Cut.calls rest (⟨#[46]⟩ : ByteArray) q1 q2 q3 W hcut
           have parc := fun W => impl_parentOf.calls rest par W hpar
           have hcv0 := fun W : World => string_of_reads (P := Tryz.prog) (src := 43) (dst := 9) (c := 1) (w := W.alloc (Obj.cells #[.int .u8 ((q1.size : Int) % 256)] 5)) (A := some ⟨W.heap.size, 0, none⟩) (n := 1) (xs := [(q1.size : Int) % 256]) Tryz.underlying43 Tryz.underlying5 Tryz.underlying9 ⟨rfl, by omega, fun _ => ⟨_, rfl, fun j hj => by
            obtain rfl : j = 0 := by omega
            exact cell_new W _ _⟩⟩
           have hsb : (strOfNums [(q1.size : Int) % 256]).size = 1 := by rw [strOfNums_size]; rfl
           generalize strOfNums [(q1.size : Int) % 256] = sb at H hcv0 hsb
           have c5a := eq_true (show sb.size + q1.size ≤ 9223372036854775807 by omega)
           have c5b : decide (sb.size + q1.size ≤ 9223372036854775807) = true := decide_eq_true (by omega)
           have c5c : (9223372036854775807 < sb.size + q1.size) = False := eq_false (by omega)
           have c6a := eq_true (show ahead.size + (sb.size + q1.size) ≤ 9223372036854775807 by omega)
           have c6b : decide (ahead.size + (sb.size + q1.size) ≤ 9223372036854775807) = true := decide_eq_true (by omega)
           have c6c : (9223372036854775807 < ahead.size + (sb.size + q1.size)) = False := eq_false (by omega)
           clear hsb
           have HN := Aside0.mk H
           clear H
           go_wp2_with (first | (go_at_call 242; refine ic0.mono ?_; rintro e w2 ⟨rfl, hb2⟩; have hb3 := (hb2.cell (World.block_lt_of_cell? _ _ hb0)).trans hb0; have hr3 := (hb2.cell (World.block_lt_of_cell? _ _ hr0)).trans hr0; have BW2 := below_then BW.out BW.out.size hb2; have HC2 := Aside0.mk (Kd.C_below HC.out hb2)) | (go_at_call 92; refine (cutc _).mono ?_; rintro e w3_ ⟨rfl, ⟨nd, rfl⟩⟩; have hbd := pw_below_drewN (Below.refl w2.heap.size w2) nd; have hb4 := (hbd.cell (World.block_lt_of_cell? _ _ hb3)).trans hb3; have hr4 := (hbd.cell (World.block_lt_of_cell? _ _ hr3)).trans hr3; have BW3 := Aside0.mk (pw_below_drewN BW2 nd); have HC3 := Aside0.mk (Kd.C_below HC2.out hbd); clear hbd; generalize w2.drewN nd = w3 at hb4 hr4 BW3 HC3 ⊢; have hr5 := (World.cell?_alloc_lt w3 (Obj.cells #[.int .u8 ((q1.size : Int) % 256)] 5) _ (World.block_lt_of_cell? _ _ hr4)).trans hr4; have hcv := hcv0 w3) | (go_at_call 241; refine (parc _).mono ?_; rintro e w5_ ⟨rfl, ⟨nd5, rfl⟩⟩))
           obtain ⟨nx1, nx2⟩ := put_next w3 (Obj.cells #[.int .u8 ((q1.size : Int) % 256)] 5) rest par 9 nd5
           go_roundg k1
           case measure => have := HK1.out; omega
           case rel => exact ⟨ahead ++ (sb ++ q1), par, w3.heap.size + 1, rfl, rfl, HN, ⟨by have := HK1.out; omega⟩, ⟨Kd.C_below HC3.out nx1⟩, ⟨(nx1.cell (World.block_lt_of_cell? _ _ hb4)).trans hb4⟩, ⟨nx2⟩, ⟨by have := BW3.out.size; omega⟩, ⟨below_then BW3.out BW3.out.size nx1⟩⟩
         · rw [if_neg c4] at H
           cases H
     · rw [if_neg c2] at H
       cases H
theorem idxP_congr {α : Type} (p q : α → Bool) : ∀ (xs : List α) (i : Int), (∀ x ∈ xs, p x = q x) → idxP p xs i = idxP q xs i
 | [], i, _ => rfl
 | x :: xs, i, h => by
  unfold idxP
  rw [h x List.mem_cons_self, idxP_congr p q xs (i + 1) fun y hy => h y (List.mem_cons_of_mem _ hy)]
theorem impl_putName.calls (k : Nat) (a0 : ByteArray) (a1 : ByteArray) (r : ByteArray) (w : World) (h : impl_putName.f k a0 a1 = some r) :
 Calls Tryz.prog 199 #[.string a0, .string a1] w fun e w' => e = .returned (.string r) ∧ Below w.heap.size w w' := by
 unfold impl_putName.f at h
 obtain ⟨p, hp, h⟩ := Option.bind_eq_some_iff.mp h
 exact put_walk k a0 a1 p r w hp h
end Go.Proofs.YtiegkjimpclmaaaGreatDoor.P
namespace Go.Proofs.YtiegkjimpclmaaaGreatDoor.Pure
open Go.Proofs.YtiegkjimpclmaaaGreatDoor.P
set_option linter.unusedSectionVars false
section
variable (s : ByteArray) (hs : s.size ≤ 2000)
include hs
theorem sync2 : ∀ (n a : Nat) (L : List ByteArray) (p : List Int) (le : Nat) (e : Int) (a0 : Nat), le * 10 + (9 - L.length) ≤ n → L.length ≤ 9 → p.length ≤ L.length → InvL L → (e < 0 → a0 ≤ a) → (0 ≤ e → (a0 : Int) < e ∧ e ≤ (s.size : Int)) → (∀ x ∈ p, 0 ≤ x ∧ x < (s.size : Int)) →
 ∃ r r', Ev (fun k => spec_l2Take.l0 k s (a : Int) L p (le : Int) e) r ∧ Ev (fun k => impl_takeName.l0 k s (a : Int) (L.map smB) p (le : Int) e) r' ∧ r.2.2.2 = r'.2.2.2 ∧
  (r.2.2.2 = true → r.1 = r'.1 ∧ r.2.1 = r'.2.2.1 ∧ r.2.2.1 = r'.2.1 ∧ (a0 : Int) < r.2.1 ∧ r.2.1 ≤ (s.size : Int) ∧ r.2.2.1.length ≤ 9 ∧ ∀ x ∈ r.2.2.1, 0 ≤ x ∧ x < (s.size : Int))
 | n, a, L, p, le, e, a0, hn, hL, hp, hI, he1, he2, hpr => by
  have hLs : (L.map smB).length = L.length := List.length_map ..
  by_cases ho : s.size ≤ a ∨ 8 < L.length
  · exact ⟨failS, failI, Ev.of (fun k => (spec_l2Take.mono_l k).1 _ _ _ _ _ _) (spec_out s hs 0 a L p le e ho), Ev.of (fun k => (impl_takeName.mono_l k).1 _ _ _ _ _ _) (impl_out s hs 0 a _ p le e (by omega)), rfl, fun h => by cases h⟩
  · have h1 : a < s.size := by omega
    have h2 : L.length ≤ 8 := by omega
    by_cases v0 : byteAt s a = 0
    · have hi := impl_end s hs 0 a (L.map smB) p le e h1 (by omega) v0
      refine ⟨((foldR (mkB (joinL L))).1, endOf e (a + 1), p, (foldR (mkB (joinL L))).2), _, ?_, Ev.of (fun k => (impl_takeName.mono_l k).1 _ _ _ _ _ _) hi, by rw [fin_eq L hI], fun _ => ⟨by rw [fin_eq L hI], rfl, rfl, ?_, ?_, by show p.length ≤ 9; omega, hpr⟩⟩
      · refine Ev.step (f := fun k => (spec_l1Join.f k L).bind fun t => (spec_FoldName.f t).bind fun bt119 => some (bt119.1, endOf e (a + 1), p, bt119.2)) (fun k => ?_) (Ev.bind (join_ev L (fun x hx => by have := (hI x hx).2.1; omega) (by omega)) (Ev.congr (f := fun _ => some ((foldR (mkB (joinL L))).1, endOf e (a + 1), p, (foldR (mkB (joinL L))).2)) (fun k => by unfold spec_FoldName.f; rfl) (Ev.now _)))
        show spec_l2Take.l0 (k + 1) s (a : Int) L p (le : Int) e = _
        conv => lhs; unfold spec_l2Take.l0
        rw [if_pos (by omega), if_neg (by omega), if_pos (by omega), if_pos (by omega), byteAt_bt, wN _ (by have := byteAt_lt s a; omega), v0, if_neg (by decide), if_pos (by rfl), w64n (by omega)]
        unfold endOf
        by_cases he : e < 0
        · rw [if_pos he, if_pos he]
        · rw [if_neg he, if_neg he]
      · show (a0 : Int) < endOf e (a + 1)
        unfold endOf
        split <;> omega
      · show endOf e (a + 1) ≤ (s.size : Int)
        unfold endOf
        split <;> omega
    · by_cases v1 : 192 ≤ byteAt s a
      · by_cases h3 : a + 1 < s.size
        · by_cases hle : ((ptrOf s a : Nat) : Int) ≥ (le : Int)
          · exact ⟨failS, failI, Ev.of (fun k => (spec_l2Take.mono_l k).1 _ _ _ _ _ _) ((spec_ptr s hs 0 a L p le e h1 h2 v1 h3).trans (if_pos hle)), Ev.of (fun k => (impl_takeName.mono_l k).1 _ _ _ _ _ _) ((impl_ptr s hs 0 a _ p le e h1 (by omega) v1 h3).trans (if_pos hle)), rfl, fun h => by cases h⟩
          · obtain ⟨r, r', g1, g2, g3⟩ := sync2 (n - 10) (ptrOf s a) L p (ptrOf s a) (endOf e (a + 2)) a0 (by omega) hL hp hI (by unfold endOf; split <;> omega) (by unfold endOf; split <;> omega) hpr
            exact ⟨r, r', Ev.step (fun k => (spec_ptr s hs k a L p le e h1 h2 v1 h3).trans (if_neg hle)) g1, Ev.step (fun k => rfl) (Ev.step (g := fun k => impl_takeName.l0 (k + 1) s (a : Int) (L.map smB) p (le : Int) e) (fun k => (impl_ptr s hs k a _ p le e h1 (by omega) v1 h3).trans (if_neg hle)) g2), g3⟩
        · exact ⟨failS, failI, Ev.of (fun k => (spec_l2Take.mono_l k).1 _ _ _ _ _ _) (spec_ptr_out s hs 0 a L p le e h1 h2 v1 (by omega)), Ev.of (fun k => (impl_takeName.mono_l k).1 _ _ _ _ _ _) (impl_ptr_out s hs 0 a _ p le e h1 (by omega) v1 (by omega)), rfl, fun h => by cases h⟩
      · have hlb : ∀ (g : s.size ≥ a + 1 + byteAt s a), (rawL s a).length = byteAt s a := fun g => by unfold rawL; rw [List.length_take, List.length_drop, ← size_len]; omega
        by_cases h3 : 64 ≤ byteAt s a ∨ s.size < a + 1 + byteAt s a
        · exact ⟨failS, failI, Ev.of (fun k => (spec_l2Take.mono_l k).1 _ _ _ _ _ _) (spec_lab_out s hs 0 a L p le e h1 h2 (by omega) (by omega) (by omega)), Ev.of (fun k => (impl_takeName.mono_l k).1 _ _ _ _ _ _) (impl_lab_out s hs 0 a _ p le e h1 (by omega) (by omega) (by omega) h3), rfl, fun h => by cases h⟩
        · have hlen := hlb (by omega)
          have himpl : ∀ r, Ev (fun k => impl_takeName.l0 k s ((a + 1 + byteAt s a : Nat) : Int) (L.map smB ++ [mkB ((rawL s a).map lowB)]) (plc e p a) (le : Int) e) r → Ev (fun k => impl_takeName.l0 k s (a : Int) (L.map smB) p (le : Int) e) r := fun r g2 =>
           Ev.step (fun k => rfl) (Ev.step (fun k => rfl) (Ev.step (g := fun k => impl_takeName.l0 (k + 2) s (a : Int) (L.map smB) p (le : Int) e) (fun k => impl_lab s hs k a _ p le e h1 (by omega) (by omega) (by omega) (by omega) (by omega)) g2))
          have hpl : (plc e p a).length ≤ L.length + 1 := by
           unfold plc
           split
           · rw [List.length_append, List.length_singleton]; omega
           · omega
          have hplr : ∀ x ∈ plc e p a, 0 ≤ x ∧ x < (s.size : Int) := by
           unfold plc
           split
           · intro x hx
             rcases List.mem_append.1 hx with hx | hx
             · exact hpr x hx
             · rw [List.mem_singleton.1 hx]; omega
           · exact hpr
          have doom : isLabelL ((rawL s a).map lowB) = false → ∃ r, Ev (fun k => impl_takeName.l0 k s (a : Int) (L.map smB) p (le : Int) e) r ∧ r.2.2.2 = false := by
           intro hb
           obtain ⟨r, g1, g2⟩ := doomed s hs (n - 1) (a + 1 + byteAt s a) (L.map smB ++ [mkB ((rawL s a).map lowB)]) (plc e p a) le e (by simp; omega) (by simp; omega) (by simp; omega) ⟨_, List.mem_append_right _ List.mem_cons_self, by rw [mkB_data]; exact hb⟩
           exact ⟨r, himpl r g1, g2⟩
          by_cases h20 : 20 < byteAt s a
          · obtain ⟨r', g1, g2⟩ := doom (by
             rw [Bool.eq_false_iff]
             intro e1
             have := label_size e1
             rw [List.length_map] at this
             omega)
            exact ⟨failS, r', Ev.of (fun k => (spec_l2Take.mono_l k).1 _ _ _ _ _ _) (spec_lab_out s hs 0 a L p le e h1 h2 (by omega) (by omega) (.inl h20)), g1, by rw [g2]; rfl, fun h => by cases h⟩
          · rcases spec_lab s hs a L p le e h1 h2 (by omega) (by omega) (by omega) (by omega) with ⟨f1, y, hy, rfl⟩ | ⟨f1, f2⟩
            · obtain ⟨r', g1, g2⟩ := doom (by
               rw [Bool.eq_false_iff]
               intro e1
               unfold isLabelL at e1
               simp only [Bool.or_eq_true, Bool.and_eq_true, beq_iff_eq, List.all_eq_true] at e1
               have hm : (46 : UInt8) ∈ (rawL s a).map lowB := List.mem_map.2 ⟨46, hy, (low46 46).2 rfl⟩
               rcases e1 with e1 | e1
               · rw [e1] at hm
                 simp at hm
               · exact absurd (e1.2 46 hm) (by decide))
              exact ⟨failS, r', f1, g1, by rw [g2]; rfl, fun h => by cases h⟩
            · obtain ⟨r, r', g1, g2, g3⟩ := sync2 (n - 1) (a + 1 + byteAt s a) (L ++ [mkB (rawL s a)]) (plc e p a) le e a0 (by simp; omega) (by simp; omega) (by simp; omega) (by
               intro x hx
               rcases List.mem_append.1 hx with hx | hx
               · exact hI x hx
               · obtain rfl := List.mem_singleton.1 hx
                 rw [mkB_size, mkB_data]
                 exact ⟨by omega, by omega, f1⟩) (by omega) he2 hplr
              refine ⟨r, r', f2 r g1, himpl r' ?_, g3⟩
              rw [List.map_append] at g2
              have e1 : [mkB (rawL s a)].map smB = [mkB ((rawL s a).map lowB)] := by simp [smB, mkB_data]
              rw [e1] at g2
              exact g2
 termination_by n => n
 decreasing_by all_goals omega
theorem take_both2 (a : Nat) (ha : a ≤ s.size) : ∃ r r', Ev (fun k => spec_l2Take.f k s (a : Int)) r ∧ Ev (fun k => impl_takeName.f k s (a : Int)) r' ∧ r.2.2.2 = r'.2.2.2 ∧
 (r.2.2.2 = true → r.1 = r'.1 ∧ r.2.1 = r'.2.2.1 ∧ r.2.2.1 = r'.2.1 ∧ (a : Int) < r.2.1 ∧ r.2.1 ≤ (s.size : Int) ∧ r.2.2.1.length ≤ 9 ∧ ∀ x ∈ r.2.2.1, 0 ≤ x ∧ x < (s.size : Int)) :=
 sync2 s hs (a * 10 + 9) a [] [] a (-1) a (by simp) (by simp) (by simp) (fun x hx => by cases hx) (fun _ => Nat.le_refl _) (fun h => by omega) (fun x hx => by cases hx)
end
end Go.Proofs.YtiegkjimpclmaaaGreatDoor.Pure
namespace Go.Proofs.YtiegkjimpclmaaaGreatDoor.Pure
open Go.Proofs.YtiegkjimpclmaaaGreatDoor.P
def cmpI (a b : Int) : Int := if a < b then -1 else (if b < a then 1 else 0)
theorem cmpI_eq (a b : Int) : cmp_Compare_int.f a b = some (cmpI a b) := by
 unfold cmp_Compare_int.f cmp_isNaN_int.f cmpI
 simp only [bne_self_eq_false, Option.bind_some, Bool.false_eq_true, if_false]
 by_cases h : a < b
 · rw [if_pos h, if_pos h]
 · rw [if_neg h, if_neg h]
   by_cases h2 : b < a
   · rw [if_pos h2, if_pos h2]
   · rw [if_neg h2, if_neg h2]
def or2 (a b : Int) : Int := if a = 0 then b else a
theorem or_two (a b : Int) : Ev (fun k => cmp_Or_int.f k [a, b]) (or2 a b) := by
 refine Ev.of (fun k => cmp_Or_int.mono _ _) (k := 3) ?_
 show cmp_Or_int.f 3 [a, b] = _
 unfold or2
 by_cases h : a = 0
 · by_cases h2 : b = 0
   · simp [cmp_Or_int.f, cmp_Or_int.l0, rd, wrap64, h, h2]
   · simp [cmp_Or_int.f, cmp_Or_int.l0, rd, wrap64, h, h2]
 · simp [cmp_Or_int.f, cmp_Or_int.l0, rd, wrap64, h]
theorem good_bytes (b : Int) (d : ByteArray) (a : ByteArray) (c : Int) (ha : a.size ≤ 1048576) (hd : d.size ≤ 1048576) (h : Ev (fun k => impl_GoodRecord.f k a b c d) true) : ∃ x : ByteArray, Ev (fun k => spec_l3Bytes.f k b d) (x, true) ∧ Ev (fun k => impl_DataBytes.f k b d) (x, true) := by
 obtain ⟨r, q, r1, r2, q1, q2, hr, hs⟩ := goodrec_both a b c d ha hd
 have e := Ev.unique h r2
 subst e
 have hr := hr.symm
 rw [Bool.and_eq_true] at hr
 obtain ⟨x, y⟩ := q
 obtain rfl : y = true := hr.1
 exact ⟨x, q1, q2⟩
abbrev LRec := S91
abbrev IRec := S45
def conv (x : LRec) : IRec := ⟨x.f0, x.f1, x.f2, x.f3⟩
theorem rdL (l : List LRec) (i : Nat) (h : i < l.length) : rd_T91 l (i : Int) = l[i] := by
 unfold rd_T91
 rw [Int.toNat_natCast, List.getD_eq_getElem?_getD, List.getElem?_eq_getElem h, Option.getD_some]
theorem rdI (l : List IRec) (i : Nat) (h : i < l.length) : rd_T45 l (i : Int) = l[i] := by
 unfold rd_T45
 rw [Int.toNat_natCast, List.getD_eq_getElem?_getD, List.getElem?_eq_getElem h, Option.getD_some]
def Small (x : ByteArray) : Prop := x.size ≤ 1048576
theorem szRS_loop (l : List LRec) (hl : l.length < 1099511627776) (hs : ∀ y ∈ l, y.f0.size ≤ maxLen ∧ y.f3.size ≤ maxLen) : ∀ (m i : Nat) (left : Int), i + m = l.length → 0 ≤ left → left ≤ 1048576 →
 ∃ t, Ev (fun k => laws_szRecordS.l0 k l left (i : Int)) t ∧ (0 ≤ t → t ≤ left ∧ ∀ (j : Nat) (h : j < l.length), i ≤ j → l[j].f0.size ≤ 1048576 ∧ l[j].f3.size ≤ 1048576)
 | 0, i, left, hi, h0, h1 => by
  refine ⟨left, Ev.step (f := fun _ => some left) (fun k => ?_) (Ev.now _), fun _ => ⟨Int.le_refl _, fun j h hij => absurd h (by omega)⟩⟩
  show laws_szRecordS.l0 (k + 1) l left (i : Int) = _
  rw [laws_szRecordS.l0, if_neg (by omega)]
 | m + 1, i, left, hi, h0, h1 => by
  have hlt : i < l.length := by omega
  have hx := hs _ (List.getElem_mem hlt)
  obtain ⟨t, e, ht⟩ := szRecAt left h0 h1 l[i].f0 l[i].f1 l[i].f2 l[i].f3 hx.1 hx.2
  have hw : wrap64 ((i : Int) + 1) = ((i + 1 : Nat) : Int) := w64n (by omega)
  by_cases hn : t < 0
  · refine ⟨-1, Ev.step (f := fun _ => some (-1)) (fun k => ?_) (Ev.now _), fun h => absurd h (by omega)⟩
    show laws_szRecordS.l0 (k + 1) l left (i : Int) = _
    rw [laws_szRecordS.l0, if_pos (by omega), if_pos (by omega), rdL l i hlt, e, Option.bind_some, if_pos hn]
  · obtain ⟨g1, g2, g3⟩ := ht (by omega)
    obtain ⟨t', e', ht'⟩ := szRS_loop l hl hs m (i + 1) t (by omega) (by omega) (by omega)
    refine ⟨t', Ev.step (f := fun k => laws_szRecordS.l0 k l t ((i + 1 : Nat) : Int)) (fun k => ?_) e', fun h => ?_⟩
    · show laws_szRecordS.l0 (k + 1) l left (i : Int) = _
      rw [laws_szRecordS.l0, if_pos (by omega), if_pos (by omega), rdL l i hlt, e, Option.bind_some, if_neg hn, hw]
    · obtain ⟨q1, q2⟩ := ht' h
      refine ⟨by omega, fun j hj hij => ?_⟩
      by_cases c : j = i
      · subst c; exact ⟨g2, g3⟩
      · exact q2 j hj (by omega)
theorem szRS_ev (l : List LRec) (left : Int) (h0 : 0 ≤ left) (h1 : left ≤ 1048576) (hm : l.length ≤ maxLen) (hs : ∀ y ∈ l, y.f0.size ≤ maxLen ∧ y.f3.size ≤ maxLen) :
 ∃ t, Ev (fun k => laws_szRecordS.f k l left) t ∧ (0 ≤ t → t ≤ left ∧ l.length ≤ 1048576 ∧ ∀ y ∈ l, Small y.f0 ∧ Small y.f3) := by
 simp only [maxLen] at hm
 have hw : wrap64 (left - (l.length : Int)) = left - (l.length : Int) := by unfold wrap64; omega
 by_cases hn : left - (l.length : Int) < 0
 · refine ⟨-1, Ev.congr (f := fun _ => some (-1)) (fun k => ?_) (Ev.now _), fun h => absurd h (by omega)⟩
   unfold laws_szRecordS.f
   rw [hw, if_pos hn]
 · obtain ⟨t, e, ht⟩ := szRS_loop l (by omega) hs l.length 0 (left - (l.length : Int)) (by omega) (by omega) (by omega)
   refine ⟨t, Ev.congr (fun k => ?_) e, fun h => ?_⟩
   · unfold laws_szRecordS.f
     rw [hw, if_neg hn]
     rfl
   · obtain ⟨q1, q2⟩ := ht h
     refine ⟨by omega, by omega, fun y hy => ?_⟩
     obtain ⟨j, hj, rfl⟩ := List.mem_iff_getElem.1 hy
     exact q2 j hj (Nat.zero_le _)
theorem toRS_loop (l : List LRec) (hl : l.length < 1099511627776) : ∀ (m i : Nat) (out : List IRec), i + m = l.length → out = (l.take i).map conv ++ List.replicate m z45 → Ev (fun k => laws_toRecordS.l0 k l out (i : Int)) (l.map conv)
 | 0, i, out, hi, ho => by
  refine Ev.step (f := fun _ => some (l.map conv)) (fun k => ?_) (Ev.now _)
  show laws_toRecordS.l0 (k + 1) l out (i : Int) = _
  rw [laws_toRecordS.l0, if_neg (by omega), ho, List.take_of_length_le (by omega)]
  simp
 | m + 1, i, out, hi, ho => by
  have hlt : i < l.length := by omega
  have hw : wrap64 ((i : Int) + 1) = ((i + 1 : Nat) : Int) := w64n (by omega)
  have hlen : ((l.take i).map conv).length = i := by rw [List.length_map, List.length_take]; omega
  have ih := toRS_loop l hl m (i + 1) (out.set i (conv l[i])) (by omega) (by
   rw [ho, List.set_append_right _ _ (by omega), hlen, Nat.sub_self, List.take_succ_eq_append_getElem hlt, List.map_append, List.append_assoc]
   rfl)
  refine Ev.step (f := fun k => laws_toRecordS.l0 k l (out.set i (conv l[i])) ((i + 1 : Nat) : Int)) (fun k => ?_) ih
  show laws_toRecordS.l0 (k + 1) l out (i : Int) = _
  have ho2 : out.length = l.length := by rw [ho, List.length_append, hlen, List.length_replicate]; omega
  rw [laws_toRecordS.l0, if_pos (by omega), if_pos (by omega), rdL l i hlt]
  unfold laws_toRecord.f
  rw [Option.bind_some, if_pos (by omega), hw, Int.toNat_natCast]
  rfl
theorem toRS_ev (l : List LRec) (hl : l.length ≤ 1048576) : Ev (fun k => laws_toRecordS.f k l) (l.map conv) := by
 refine Ev.congr (fun k => ?_) (toRS_loop l (by omega) l.length 0 (List.replicate l.length z45) (by omega) (by simp))
 unfold laws_toRecordS.f
 rw [if_pos (by omega), Int.toNat_natCast, if_pos (by omega)]
 rfl
theorem eqRec_self (x : IRec) : laws_eqRecord.f x.f0 x.f1 x.f2 x.f3 x.f0 x.f1 x.f2 x.f3 = some true := by
 unfold laws_eqRecord.f
 simp
theorem eqRS_loop (l : List IRec) (hl : l.length < 1099511627776) : ∀ (m i : Nat), i + m = l.length → Ev (fun k => laws_eqRecordS.l0 k l l (i : Int)) true
 | 0, i, hi => by
  refine Ev.step (f := fun _ => some true) (fun k => ?_) (Ev.now _)
  show laws_eqRecordS.l0 (k + 1) l l (i : Int) = _
  rw [laws_eqRecordS.l0, if_neg (by omega)]
 | m + 1, i, hi => by
  have hlt : i < l.length := by omega
  have hw : wrap64 ((i : Int) + 1) = ((i + 1 : Nat) : Int) := w64n (by omega)
  refine Ev.step (f := fun k => laws_eqRecordS.l0 k l l ((i + 1 : Nat) : Int)) (fun k => ?_) (eqRS_loop l hl m (i + 1) (by omega))
  show laws_eqRecordS.l0 (k + 1) l l (i : Int) = _
  rw [laws_eqRecordS.l0, if_pos (by omega), if_pos (by omega), if_pos (by omega), eqRec_self, Option.bind_some, if_pos rfl, hw]
theorem eqRS_ev (l : List IRec) (hl : l.length ≤ 1048576) : Ev (fun k => laws_eqRecordS.f k l l) true := by
 refine Ev.congr (fun k => ?_) (eqRS_loop l (by omega) l.length 0 (by omega))
 unfold laws_eqRecordS.f
 rw [if_pos rfl]
 rfl
theorem small_conv {l : List LRec} (h : ∀ y ∈ l, Small y.f0 ∧ Small y.f3) : ∀ y ∈ l.map conv, Small y.f0 ∧ Small y.f3 := by
 intro y hy
 obtain ⟨x, hx, rfl⟩ := List.mem_map.1 hy
 exact h x hx
end Go.Proofs.YtiegkjimpclmaaaGreatDoor.Pure
namespace Go.Proofs.YtiegkjimpclmaaaGreatDoor.P
attribute [local go_sem] max2_int min2_int max_two min_two max_three min_three max_four min_four
def impl_packed.l0 : Nat → ByteArray → List ByteArray → Int → Int → Option (ByteArray × Bool)
 | 0, _, _, _, _ => none
 | k + 1, x4, x7, x8, x9 => if x9 < x8 then (if 0 ≤ x9 then (if x9 < (x7.length : Int) then ((impl_putName.f k x4 (rdOf ByteArray.empty x7 x9)).bind fun t1026 => (if (t1026.size : Int) > 600 then (some ((⟨#[]⟩ : ByteArray), false)) else (impl_packed.l0 k t1026 x7 x8 (wrap64 (x9 + 1))))) else (none)) else (none)) else (some (x4, true))
def impl_packed.f (k : Nat) (l0 : List ByteArray) : Option (ByteArray × Bool) := impl_packed.l0 k (⟨#[]⟩ : ByteArray) l0 (l0.length : Int) 0
theorem impl_packed.calls (k : Nat) (A0 : Option Addr) (c0 : Nat) (l0 : List ByteArray) (r1 : ByteArray) (r2 : Bool) (w : World) (hr0 : Kd.C Kd.string w A0 l0.length l0) (hc0 : l0.length ≤ c0) (h : impl_packed.f k l0 = some (r1, r2)) :
 Calls Tryz.prog 163 #[.slice A0 l0.length c0] w fun e w' => e = .returned (.tuple #[.string r1, .bool r2]) ∧ Below w.heap.size w w' := by
 have HR0 := a0_ hr0
 have HC0 := a0_ hc0
 clear hr0 hc0
 have HB := a0_ (Below.refl w.heap.size w)
 have H := h
 clear h
 unfold impl_packed.f at H
 have H' := a0_ H
 clear H
 go_enter Tryz.func163, Tryz.ntmps163
 go_wp2
 go_loopg [4, 9] k (fun kq v4 v9 w' => ∃ (x4_1 : ByteArray) (x9_1 : Int), v4 = .string x4_1 ∧ v9 = .int .i64 x9_1 ∧ Aside0 (impl_packed.l0 kq x4_1 l0 (l0.length : Int) x9_1 = some (r1, r2)) ∧ Aside0 (kq ≤ k) ∧ Aside0 (Below w.heap.size w w'))
 case atStart => exact ⟨((⟨#[]⟩ : ByteArray)), (0), rs_, rs_, H', ⟨Nat.le_refl _⟩, ⟨bq0_⟩⟩
 case round =>
  clear H'
  obtain ⟨x4_1, x9_1, rfl, rfl, HA, HK1, HB⟩ := hrel
  cases gk with
  | zero => exact absurd HA.out (by simp [impl_packed.l0])
  | succ k1 =>
   have H := HA.out
   clear HA
   simp only [impl_packed.l0] at H
   by_cases c2 : x9_1 < (l0.length : Int)
   case neg =>
    rw [if_neg c2] at H
    have c2b0 := decide_eq_false c2
    clear c2
    simp only [Option.some.injEq, Prod.mk.injEq] at H
    obtain ⟨rfl, rfl⟩ := H
    go_wp2
    go_ret2
    exact ⟨rr_, bq0_⟩
   rw [if_pos c2] at H
   have c2b0 := decide_eq_true c2
   clear c2
   by_cases c3 : 0 ≤ x9_1
   case neg =>
    rw [if_neg c3] at H
    exact absurd H (by simp)
   rw [if_pos c3] at H
   have c3b0 := decide_eq_true c3
   clear c3
   by_cases c4 : x9_1 < (l0.length : Int)
   case neg =>
    rw [if_neg c4] at H
    exact absurd H (by simp)
   rw [if_pos c4] at H
   have c4b0 := decide_eq_true c4
   clear c4
   obtain ⟨t1026, A5, H⟩ := ob_ H
   by_cases c6 : (t1026.size : Int) > 600
   case pos =>
    rw [if_pos c6] at H
    have c6b0 := decide_eq_true c6
    have c6b1 : decide (600 < t1026.size) = true := decide_eq_true (by omega)
    clear c6
    simp only [Option.some.injEq, Prod.mk.injEq] at H
    obtain ⟨rfl, rfl⟩ := H
    have p1025 := t0_ (x9_1)
    have q1025 := tl_ (x9_1) (l0.length)
    obtain ⟨ad1025, e1025, hx1025_0⟩ := Kd.at_string HR0.out x9_1 (of_eq_true p1025) (of_eq_true q1025)
    cases e1025
    replace hx1025_0 := (HB.out.cell (World.block_lt_of_cell? w _ hx1025_0)).trans hx1025_0
    go_wp2_with (first | ((with_reducible refine gt_ 199 rfl ?_); refine gs_ 15 Tryz.func199 #[.string x4_1, .string (rdOf ByteArray.empty l0 x9_1)] ?_; (with_reducible refine (impl_putName.calls k1 x4_1 (rdOf ByteArray.empty l0 x9_1) t1026 _ A5.out).mono ?_); rintro e w7 ⟨rfl, hb⟩; refine ⟨_, rfl, ?_⟩; replace HB := a0_ (below_step bq0_ hb); clear hb))
    go_ret2
    exact ⟨rr_, bq0_⟩
   rw [if_neg c6] at H
   have c6b0 := decide_eq_false c6
   have c6b1 : decide (600 < t1026.size) = false := decide_eq_false (by omega)
   clear c6
   have H' := a0_ H
   clear H
   have p1025 := t0_ (x9_1)
   have q1025 := tl_ (x9_1) (l0.length)
   obtain ⟨ad1025, e1025, hx1025_0⟩ := Kd.at_string HR0.out x9_1 (of_eq_true p1025) (of_eq_true q1025)
   cases e1025
   replace hx1025_0 := (HB.out.cell (World.block_lt_of_cell? w _ hx1025_0)).trans hx1025_0
   go_wp2_with (first | ((with_reducible refine gt_ 199 rfl ?_); refine gs_ 15 Tryz.func199 #[.string x4_1, .string (rdOf ByteArray.empty l0 x9_1)] ?_; (with_reducible refine (impl_putName.calls k1 x4_1 (rdOf ByteArray.empty l0 x9_1) t1026 _ A5.out).mono ?_); rintro e w8 ⟨rfl, hb⟩; refine ⟨_, rfl, ?_⟩; replace HB := a0_ (below_step bq0_ hb); clear hb))
   go_roundg k1
   case measure => have := HK1.out; omega
   case rel => exact ⟨(t1026), (wrap64 (x9_1 + 1)), rs_, rs_, H', jl_ HK1, ⟨bq0_⟩⟩
mutual
def spec_l4Bytes.j0 : Nat → Int → Int → Bool → Bool → Int → ByteArray → Int → List (S45) → List (S45) → Option (ByteArray)
 | 0, _, _, _, _, _, _, _, _, _ => none
 | k + 1, x3, x917000, x917001, x917002, x917003, x917004, x917005, x917006, x917007 => if x917002 = true then (spec_l4Bytes.j1 k (Go.bits .or .i64 x3 1) x917000 x917001 x917002 x917003 x917004 x917005 x917006 x917007) else (spec_l4Bytes.j1 k x3 x917000 x917001 x917002 x917003 x917004 x917005 x917006 x917007)
def spec_l4Bytes.j1 : Nat → Int → Int → Bool → Bool → Int → ByteArray → Int → List (S45) → List (S45) → Option (ByteArray)
 | 0, _, _, _, _, _, _, _, _, _ => none
 | k + 1, x3, x917000, x917001, x917002, x917003, x917004, x917005, x917006, x917007 => (some (([] : List (S45)) : List (S45))).bind fun y917 => (if y917.length + x917006.length < 2932031007402 then ((some (y917 ++ x917006 : List (S45))).bind fun y920 => (if y920.length + x917007.length < 2932031007402 then ((some (y920 ++ x917007 : List (S45))).bind fun y923 => ((spec_l3Number.f k x917005 1).bind fun t929 => (spec_l4Bytes.l0 k x3 (([x917004] : List ByteArray)) t929 y923 (y923.length : Int) 0 x917000 x917001 x917002 x917003 x917004 x917005 x917006 x917007))) else (none))) else (none))
def spec_l4Bytes.l0 : Nat → Int → List ByteArray → ByteArray → List (S45) → Int → Int → Int → Bool → Bool → Int → ByteArray → Int → List (S45) → List (S45) → Option (ByteArray)
 | 0, _, _, _, _, _, _, _, _, _, _, _, _, _, _ => none
 | k + 1, x3, x5, x6, x33, x34, x35, x917000, x917001, x917002, x917003, x917004, x917005, x917006, x917007 => if x35 < x34 then (if 0 ≤ x35 then (if x35 < (x33.length : Int) then (if x5.length < 8796093022208 then ((spec_l3Bytes.f k ((rd_T45 x33 x35).f1) ((rd_T45 x33 x35).f3)).bind fun bt935 => ((spec_l3Number.f k ((rd_T45 x33 x35).f1) 1).bind fun t937 => ((spec_l3Number.f k ((rd_T45 x33 x35).f2) 3).bind fun t938 => (if t937.size + t938.size ≤ 9223372036854775807 then ((spec_l3Number.f k (bt935.1.size : Int) 1).bind fun t939 => (if (t937 ++ t938).size + t939.size ≤ 9223372036854775807 then (if ((t937 ++ t938) ++ t939).size + bt935.1.size ≤ 9223372036854775807 then (if x6.size + (((t937 ++ t938) ++ t939) ++ bt935.1).size ≤ 9223372036854775807 then (spec_l4Bytes.l0 k x3 (x5 ++ [(rd_T45 x33 x35).f0]) (x6 ++ (((t937 ++ t938) ++ t939) ++ bt935.1)) x33 x34 (wrap64 (x35 + 1)) x917000 x917001 x917002 x917003 x917004 x917005 x917006 x917007) else (none)) else (none)) else (none))) else (none))))) else (none)) else (none)) else (none)) else ((spec_l4Names.f k x5).bind fun t940 => ((spec_l3Number.f k x917000 2).bind fun t941 => ((spec_l3Number.f k x3 1).bind fun t942 => (if t941.size + t942.size ≤ 9223372036854775807 then ((spec_l3Number.f k x917003 1).bind fun t943 => (if (t941 ++ t942).size + t943.size ≤ 9223372036854775807 then ((spec_l3Number.f k (x917006.length : Int) 1).bind fun t944 => (if ((t941 ++ t942) ++ t943).size + t944.size ≤ 9223372036854775807 then ((spec_l3Number.f k (x917007.length : Int) 1).bind fun t945 => (if (((t941 ++ t942) ++ t943) ++ t944).size + t945.size ≤ 9223372036854775807 then ((spec_l3Number.f k (t940.size : Int) 2).bind fun t946 => (if ((((t941 ++ t942) ++ t943) ++ t944) ++ t945).size + t946.size ≤ 9223372036854775807 then (if (((((t941 ++ t942) ++ t943) ++ t944) ++ t945) ++ t946).size + t940.size ≤ 9223372036854775807 then (if ((((((t941 ++ t942) ++ t943) ++ t944) ++ t945) ++ t946) ++ t940).size + x6.size ≤ 9223372036854775807 then (some (((((((t941 ++ t942) ++ t943) ++ t944) ++ t945) ++ t946) ++ t940) ++ x6)) else (none)) else (none)) else (none))) else (none))) else (none))) else (none))) else (none)))))
end
def spec_l4Bytes.f (k : Nat) (a0_0 : Int) (a0_1 : Bool) (a0_2 : Bool) (a0_3 : Int) (a0_4 : ByteArray) (a0_5 : Int) (l0_6 : List (S45)) (l0_7 : List (S45)) : Option (ByteArray) := if a0_1 = true then (spec_l4Bytes.j0 k (Go.bits .or .i64 0 128) a0_0 a0_1 a0_2 a0_3 a0_4 a0_5 l0_6 l0_7) else (spec_l4Bytes.j0 k 0 a0_0 a0_1 a0_2 a0_3 a0_4 a0_5 l0_6 l0_7)
def spec_l4Bytes.T6 : Bool × List (List Nat × List Nat) := (true, [([], []), ([], []), ([1], [1]), ([0, 2], [0, 2]), ([], []), ([4], [4]), ([3, 5, 3], [3, 5]), ([6, 6, 0, 1, 2, 3, 4, 5, 6], [6])])
def spec_l4Bytes.B6 : List Nat := [0, 0, 2, 7, 0, 16, 63, 127]
theorem spec_l4Bytes.tab6 : rtab .any (opsOf Tryz.f103 6) = spec_l4Bytes.T6 := by kernel_rfl
theorem spec_l4Bytes.bits6 : waitsOk spec_l4Bytes.T6.2 spec_l4Bytes.B6 = true := by kernel_rfl
def spec_l4Bytes.T14 : Bool × List (List Nat × List Nat) := (true, [([], []), ([], []), ([1], [1]), ([2], [2]), ([], []), ([4], [4]), ([5, 3], [5]), ([3, 6], [3, 6]), ([], []), ([8], [8]), ([9, 6], [9]), ([7, 10], [7, 10]), ([], []), ([11, 12], [11, 12]), ([0, 13], [0, 13]), ([14, 10, 0, 1, 2, 3, 4, 5, 6, 7, 8, 9, 10, 11, 12, 13, 14], [0, 14])])
def spec_l4Bytes.B14 : List Nat := [0, 0, 2, 6, 0, 16, 62, 126, 0, 256, 894, 2046, 0, 8190, 16383, 32767]
theorem spec_l4Bytes.tab14 : rtab .any (opsOf Tryz.f103 14) = spec_l4Bytes.T14 := by kernel_rfl
theorem spec_l4Bytes.bits14 : waitsOk spec_l4Bytes.T14.2 spec_l4Bytes.B14 = true := by kernel_rfl
def spec_l4Bytes.T17 : Bool × List (List Nat × List Nat) := (true, [([], []), ([0], [0]), ([1], [1]), ([], []), ([3, 2], [3]), ([2, 4], [2, 4]), ([], []), ([6], [6]), ([7, 4], [7]), ([5, 8], [5, 8]), ([], []), ([10], [10]), ([11], [11]), ([12, 8], [12]), ([9, 13], [9, 13]), ([], []), ([15], [15]), ([16], [16]), ([17, 13], [17]), ([14, 18], [14, 18]), ([], []), ([20], [20]), ([21, 18], [21]), ([19, 22], [19, 22]), ([], []), ([23, 24], [23, 24]), ([], []), ([25, 26], [25, 26]), ([27, 22, 0, 1, 2, 3, 4, 5, 6, 7, 8, 9, 10, 11, 12, 13, 14, 15, 16, 17, 18, 19, 20, 21, 22, 23, 24, 25, 26, 27], [27])])
def spec_l4Bytes.B17 : List Nat := [0, 1, 3, 0, 15, 31, 0, 64, 223, 511, 0, 1024, 3072, 7647, 16383, 0, 32768, 98304, 245215, 524287, 0, 1048576, 3653087, 8388607, 0, 33554431, 0, 134217727, 268435455]
theorem spec_l4Bytes.tab17 : rtab .any (opsOf Tryz.f103 17) = spec_l4Bytes.T17 := by kernel_rfl
theorem spec_l4Bytes.bits17 : waitsOk spec_l4Bytes.T17.2 spec_l4Bytes.B17 = true := by kernel_rfl
theorem spec_l4Bytes.calls (k : Nat) (a0_0 : Int) (a0_1 : Bool) (a0_2 : Bool) (a0_3 : Int) (a0_4 : ByteArray) (a0_5 : Int) (A0_6 : Option Addr) (c0_6 : Nat) (l0_6 : List (S45)) (A0_7 : Option Addr) (c0_7 : Nat) (l0_7 : List (S45)) (r : ByteArray) (w : World) (hr0_6 : Kd.C k45 w A0_6 l0_6.length l0_6) (hc0_6 : l0_6.length ≤ c0_6) (hr0_7 : Kd.C k45 w A0_7 l0_7.length l0_7) (hc0_7 : l0_7.length ≤ c0_7) (h : spec_l4Bytes.f k a0_0 a0_1 a0_2 a0_3 a0_4 a0_5 l0_6 l0_7 = some r) :
 Calls Tryz.prog 103 #[.agg #[.int .i64 a0_0, .bool a0_1, .bool a0_2, .int .i64 a0_3, .string a0_4, .int .i64 a0_5, .slice A0_6 l0_6.length c0_6, .slice A0_7 l0_7.length c0_7]] w fun e w' => e = .returned (.string r) ∧ Below w.heap.size w w' := by
 have hu62 := Tryz.underlying62
 have hu45 := Tryz.underlying45
 have HR0_6 := a0_ hr0_6
 have HC0_6 := a0_ hc0_6
 clear hr0_6 hc0_6
 have HR0_7 := a0_ hr0_7
 have HC0_7 := a0_ hc0_7
 clear hr0_7 hc0_7
 have HB := a0_ (Below.refl w.heap.size w)
 have H := h
 clear h
 unfold spec_l4Bytes.f at H
 have HC2 := a0_ H
 clear H
 go_enter Tryz.func103, Tryz.ntmps103
 go_upto_if 13 with (first | ((with_reducible refine gate_dst (N := 1) rfl ?_); refine boxS_ 1 #[.int .i64 a0_0, .bool a0_1, .bool a0_2, .int .i64 a0_3, .string a0_4, .int .i64 a0_5, .slice A0_6 l0_6.length c0_6, .slice A0_7 l0_7.length c0_7] 62 (fun gb916 hg w3 hbox hb => ?_); have BK916 := a0_ (hbox); have GW916 := a0_ (gw_ hg : w.heap.size ≤ gb916); replace HB := a0_ (below_step bq0_ hb); have GE916 := GW916; clear hb hbox hg; obtain ⟨z4_0, z4_1, z4_2, z4_3, z4_4, z4_5, z4_6, z4_7, q4_0, q4_1, q4_2, q4_3, q4_4, q4_5, q4_6, q4_7⟩ := bk8_ BK916.out))
 (try simp only [Act.put, List.setIfInBounds_toArray, List.set_cons_zero, List.set_cons_succ])
 go_cut [3] (fun v3 wc => ∃ (kq : Nat) (x3_1 : Int), v3 = .int .i64 x3_1 ∧ Aside0 (spec_l4Bytes.j0 kq x3_1 a0_0 a0_1 a0_2 a0_3 a0_4 a0_5 l0_6 l0_7 = some r) ∧ Aside0 (kq ≤ k) ∧ Aside0 (wc.heap[gb916]? = some (.cells #[.int .i64 a0_0, .bool a0_1, .bool a0_2, .int .i64 a0_3, .string a0_4, .int .i64 a0_5, (.slice A0_6 l0_6.length c0_6), (.slice A0_7 l0_7.length c0_7)] 62 (0, 0))) ∧ Aside0 (Below w.heap.size w wc))
 case first =>
  have H := HC2.out
  clear HC2
  by_cases c5 : a0_1 = true
  case pos =>
   subst c5
   rw [if_pos rfl] at H
   have H' := a0_ H
   clear H
   go_wp2
   go_meet
   case rel => exact ⟨_, (Go.bits .or .i64 0 128), rs_, H', ⟨by first | omega | exact Nat.le_refl _⟩, ⟨bz_⟩, ⟨bq1_⟩⟩
  replace c5 := Bool.eq_false_iff.mpr c5
  subst c5
  rw [if_neg ff_] at H
  have H' := a0_ H
  clear H
  go_wp2
  go_meet
  case rel => exact ⟨_, (0), rs_, H', ⟨by first | omega | exact Nat.le_refl _⟩, ⟨bz_⟩, ⟨bq1_⟩⟩
 case rest =>
  clear HC2
  try clear z4_0 z4_1 z4_2 z4_3 z4_4 z4_5 z4_6 z4_7 q4_0 q4_1 q4_2 q4_3 q4_4 q4_5 q4_6 q4_7
  obtain ⟨kq, x3_1, rfl, HA, HJ1, BK916, HB⟩ := hcut
  cases kq with
  | zero => exact absurd HA.out (by simp [spec_l4Bytes.j0])
  | succ kj1 =>
   have H := HA.out
   clear HA
   simp only [spec_l4Bytes.j0] at H
   have HC6 := a0_ H
   clear H
   obtain ⟨z7_0, z7_1, z7_2, z7_3, z7_4, z7_5, z7_6, z7_7, q7_0, q7_1, q7_2, q7_3, q7_4, q7_5, q7_6, q7_7⟩ := bk8_ BK916.out
   go_upto_if 17 with (fail)
   go_cut [3] (fun v3 wc => ∃ (kq : Nat) (x3_5 : Int), v3 = .int .i64 x3_5 ∧ Aside0 (spec_l4Bytes.j1 kq x3_5 a0_0 a0_1 a0_2 a0_3 a0_4 a0_5 l0_6 l0_7 = some r) ∧ Aside0 (kq ≤ kj1) ∧ Aside0 (wc.heap[gb916]? = some (.cells #[.int .i64 a0_0, .bool a0_1, .bool a0_2, .int .i64 a0_3, .string a0_4, .int .i64 a0_5, (.slice A0_6 l0_6.length c0_6), (.slice A0_7 l0_7.length c0_7)] 62 (0, 0))) ∧ Aside0 (Below w.heap.size w wc))
   case first =>
    have H := HC6.out
    clear HC6
    by_cases c8 : a0_2 = true
    case pos =>
     subst c8
     rw [if_pos rfl] at H
     have H' := a0_ H
     clear H
     go_wp2
     go_meet
     case rel => exact ⟨_, (Go.bits .or .i64 x3_1 1), rs_, H', jl_ HJ1, ⟨bz_⟩, ⟨bq1_⟩⟩
    replace c8 := Bool.eq_false_iff.mpr c8
    subst c8
    rw [if_neg ff_] at H
    have H' := a0_ H
    clear H
    go_wp2
    go_meet
    case rel => exact ⟨_, (x3_1), rs_, H', jl_ HJ1, ⟨bz_⟩, ⟨bq1_⟩⟩
   case rest =>
    clear HC6
    try clear c1
    try clear p2
    try clear c5
    try clear z4_0 z4_1 z4_2 z4_3 z4_4 z4_5 z4_6 z4_7
    try clear z7_0 z7_1 z7_2 z7_3 z7_4 z7_5 z7_6 z7_7
    try clear q4_0 q4_1 q4_2 q4_3 q4_4 q4_5 q4_6 q4_7
    try clear q7_0 q7_1 q7_2 q7_3 q7_4 q7_5 q7_6 q7_7
    try clear p2
    obtain ⟨kq, x3_5, rfl, HA, HJ5, BK916, HB⟩ := hcut
    cases kq with
    | zero => exact absurd HA.out (by simp [spec_l4Bytes.j1])
    | succ kj5 =>
     have H := HA.out
     clear HA
     simp only [spec_l4Bytes.j1] at H
     obtain ⟨y917, hy917⟩ : ∃ y_ : List (S45), y_ = (([] : List (S45))) := ⟨_, rfl⟩
     replace H := by_ hy917 H
     have Ny917 := a0_ hy917
     clear hy917
     by_cases c9 : y917.length + l0_6.length < 2932031007402
     case neg =>
      rw [if_neg c9] at H
      exact absurd H (by simp)
     rw [if_pos c9] at H
     have LMc9 := a0_ c9
     clear c9
     obtain ⟨y920, hy920⟩ : ∃ y_ : List (S45), y_ = (y917 ++ l0_6) := ⟨_, rfl⟩
     replace H := by_ hy920 H
     have Ny920 := a0_ hy920
     clear hy920
     by_cases c10 : y920.length + l0_7.length < 2932031007402
     case neg =>
      rw [if_neg c10] at H
      exact absurd H (by simp)
     rw [if_pos c10] at H
     have LMc10 := a0_ c10
     clear c10
     obtain ⟨y923, hy923⟩ : ∃ y_ : List (S45), y_ = (y920 ++ l0_7) := ⟨_, rfl⟩
     replace H := by_ hy923 H
     have Ny923 := a0_ hy923
     clear hy923
     obtain ⟨y926, hy926⟩ : ∃ y_ : List ByteArray, y_ = (([a0_4] : List ByteArray)) := ⟨_, rfl⟩
     rw [← hy926] at H
     have Ny926 := a0_ hy926
     clear hy926
     obtain ⟨t929, A11, H⟩ := ob_ H
     have H' := a0_ H
     clear H
     try go_wp2
     replace BK916 := a0_ (blk_drew BK916.out)
     replace HB := a0_ (below_drew1 HB.out)
     refine start_ (n := 8) (S := fun w' => w'.cell? ⟨gb916, 0, none⟩ = some (.int .i64 a0_0) ∧ w'.cell? ⟨gb916, 1, none⟩ = some (.bool a0_1) ∧ w'.cell? ⟨gb916, 2, none⟩ = some (.bool a0_2) ∧ w'.cell? ⟨gb916, 3, none⟩ = some (.int .i64 a0_3) ∧ w'.cell? ⟨gb916, 4, none⟩ = some (.string a0_4) ∧ w'.cell? ⟨gb916, 5, none⟩ = some (.int .i64 a0_5) ∧ w'.cell? ⟨gb916, 6, none⟩ = some (.slice A0_6 l0_6.length c0_6) ∧ w'.cell? ⟨gb916, 7, none⟩ = some (.slice A0_7 l0_7.length c0_7)) (ds := []) #[false, false, false, false, false, false, false, false] (by kernel_rfl) rfl rfl ⟨(blk_cell BK916.out 0).trans rfl, (blk_cell BK916.out 1).trans rfl, (blk_cell BK916.out 2).trans rfl, (blk_cell BK916.out 3).trans rfl, (blk_cell BK916.out 4).trans rfl, (blk_cell BK916.out 5).trans rfl, (blk_cell BK916.out 6).trans rfl, (blk_cell BK916.out 7).trans rfl⟩ (fun hHeld => ?_); refine with_tabW spec_l4Bytes.tab6 spec_l4Bytes.bits6 (fun HT_ HW_ => ?_)
     generalize wc.drew = w12 at BK916 HB hHeld ⊢
     refine p_ 1 21 ?_
     refine p_ 4 24 ?_
     refine t_ 2 22 ?_
     refine t_ 5 25 ?_
     refine oneS_ 0 (some 20) (fun K hK => ?_)
     refine Kd.R_lit_step k45 _ 45 ?hg (N := 20) ?hd (xs := ([] : List (S45))) (inner := []) (ok := fun _ => True) (okp := fun _ => True) ?hr ?hp (fun _ hk => hk) trivial (Below.refl _ _) (Nat.le_refl _) (by simp) ?_; (case hd => rfl); (case hg => rfl); (case hr => first | (go_simp; done) | (go_simp; rfl)); (case hp => exact (Reps.none _ _))
     intro v918 w13 ho14 hb hg_ hnew_
     clear hg_ hnew_
     (first | rw [← Ny917.out] at ho14 | (simp only [Int.reduceToNat] at ho14; rw [← Ny917.out] at ho14))
     have HO919 := a0_ (Kd.R_lower ho14 (below_size bq1_))
     replace BK916 := a0_ (bkB_ BK916 hb)
     replace HB := a0_ (below_step bq1_ hb)
     clear hb ho14
     refine hK.out _ _ ⟨(blk_cell BK916.out 0).trans rfl, (blk_cell BK916.out 1).trans rfl, (blk_cell BK916.out 2).trans rfl, (blk_cell BK916.out 3).trans rfl, (blk_cell BK916.out 4).trans rfl, (blk_cell BK916.out 5).trans rfl, (blk_cell BK916.out 6).trans rfl, (blk_cell BK916.out 7).trans rfl⟩ (fun hHeld => ?_)
     clear hK K
     refine normS_ ?_
     refine oneS_ 3 (some 23) (fun K hK => ?_)
     refine Kd.R_append_rows_step k45 (w0 := w) w.heap.size (by rfl) (.tmp 20) (.tmp 22) 27 45 (.agg #[(.string ⟨#[]⟩), (.int .i64 0), (.int .i64 0), (.string ⟨#[]⟩)]) 48 rfl Tryz.underlying27 info45 rfl (by decide) (by omega) v918 y917 l0_6 _ _ _ (fun _ => True) (fun _ => False) rfl rfl ?aO ?aR (fun _ _ h => h) (fun _ h => h.elim) ?aF ?aB ?aS ?aL ?_
     (case aR => repeat (first | exact (Kd.C_below HR0_6.out HB.out) | (with_reducible refine Kd.C_alloc ?_ _) | (with_reducible refine Kd.C_drewN ?_ _) | (with_reducible refine Kd.C_drew ?_)))
     (case aB => exact bq1_)
     (case aF => exact (fun _ _ => trivial))
     (case aO => exact (kR_ HO919.out))
     (case aS => exact (below_size bq1_))
     (case aL => have := LMc9.out; omega)
     intro v921 w15 ho hb hg hat
     rw [← Ny920.out] at ho
     have n0_ := a0_ (blk_grown (g := gb916) (o := .cells #[.int .i64 a0_0, .bool a0_1, .bool a0_2, .int .i64 a0_3, .string a0_4, .int .i64 a0_5, .slice A0_6 l0_6.length c0_6, .slice A0_7 l0_7.length c0_7] 62 (0, 0)) (kB_ BK916.out) hg (Kd.R_ne HO919.out BK916.out (by decide)))
     have n1_ := a0_ (hb)
     have n2_ := a0_ (ho)
     clear BK916
     clear HB
     clear HO919
     have BK916 := n0_
     have HB := n1_
     have HO922 := n2_
     clear n0_ n1_ n2_
     clear ho hb hg hat
     refine hK.out _ _ ⟨(blk_cell BK916.out 0).trans rfl, (blk_cell BK916.out 1).trans rfl, (blk_cell BK916.out 2).trans rfl, (blk_cell BK916.out 3).trans rfl, (blk_cell BK916.out 4).trans rfl, (blk_cell BK916.out 5).trans rfl, (blk_cell BK916.out 6).trans rfl, (blk_cell BK916.out 7).trans rfl⟩ (fun hHeld => ?_)
     clear hK K
     refine normS_ ?_
     refine oneS_ 6 (some 26) (fun K hK => ?_)
     refine Kd.R_append_rows_step k45 (w0 := w) w.heap.size (by rfl) (.tmp 23) (.tmp 25) 27 45 (.agg #[(.string ⟨#[]⟩), (.int .i64 0), (.int .i64 0), (.string ⟨#[]⟩)]) 48 rfl Tryz.underlying27 info45 rfl (by decide) (by omega) v921 y920 l0_7 _ _ _ (fun _ => True) (fun _ => False) rfl rfl ?aO ?aR (fun _ _ h => h) (fun _ h => h.elim) ?aF ?aB ?aS ?aL ?_
     (case aR => repeat (first | exact (Kd.C_below HR0_7.out HB.out) | (with_reducible refine Kd.C_alloc ?_ _) | (with_reducible refine Kd.C_drewN ?_ _) | (with_reducible refine Kd.C_drew ?_)))
     (case aB => exact bq1_)
     (case aF => exact (fun _ _ => trivial))
     (case aO => exact (kR_ HO922.out))
     (case aS => exact (below_size bq1_))
     (case aL => have := LMc10.out; omega)
     intro v924 w16 ho hb hg hat
     rw [← Ny923.out] at ho
     have n0_ := a0_ (blk_grown (g := gb916) (o := .cells #[.int .i64 a0_0, .bool a0_1, .bool a0_2, .int .i64 a0_3, .string a0_4, .int .i64 a0_5, .slice A0_6 l0_6.length c0_6, .slice A0_7 l0_7.length c0_7] 62 (0, 0)) (kB_ BK916.out) hg (Kd.R_ne HO922.out BK916.out (by decide)))
     have n1_ := a0_ (hb)
     have n2_ := a0_ (ho)
     clear BK916
     clear HB
     clear HO922
     have BK916 := n0_
     have HB := n1_
     have HO925 := n2_
     clear n0_ n1_ n2_
     clear ho hb hg hat
     refine hK.out _ _ ⟨(blk_cell BK916.out 0).trans rfl, (blk_cell BK916.out 1).trans rfl, (blk_cell BK916.out 2).trans rfl, (blk_cell BK916.out 3).trans rfl, (blk_cell BK916.out 4).trans rfl, (blk_cell BK916.out 5).trans rfl, (blk_cell BK916.out 6).trans rfl, (blk_cell BK916.out 7).trans rfl⟩ (fun hHeld => ?_)
     clear hK K
     refine normS_ ?_
     refine p_ 7 4 ?_
     refine done_ (done_of HT_.out (by kernel_rfl)) ?_
     obtain ⟨z17_0, z17_1, z17_2, z17_3, z17_4, z17_5, z17_6, z17_7, q17_0, q17_1, q17_2, q17_3, q17_4, q17_5, q17_6, q17_7⟩ := bk8_ BK916.out
     try go_wp2_with (first | ((with_reducible refine gate_dst (N := 29) rfl ?_); refine ls_ 29 9 ([a0_4] : List ByteArray) ?_; intro v927 w18 ho19 hb hg_ hnew_; clear hg_ hnew_; (first | rw [← Ny926.out] at ho19 | (simp only [Int.reduceToNat] at ho19; rw [← Ny926.out] at ho19)); replace HO925 := a0_ (Kd.R_below (kR_ HO925.out) hb); have HO928 := a0_ (Kd.R_lower ho19 (below_size bq1_)); replace BK916 := a0_ (bkB_ BK916 hb); replace HB := a0_ (below_step bq1_ hb); clear hb ho19; obtain ⟨z20_0, z20_1, z20_2, z20_3, z20_4, z20_5, z20_6, z20_7, q20_0, q20_1, q20_2, q20_3, q20_4, q20_5, q20_6, q20_7⟩ := bk8_ BK916.out) | ((with_reducible refine gt_ 118 rfl ?_); refine gs_ 32 Tryz.func118 #[.int .i64 a0_5, .int .i64 1] ?_; (with_reducible refine (spec_l3Number.calls kj5 a0_5 1 t929 _ A11.out).mono ?_); rintro e w21 ⟨rfl, hb⟩; refine ⟨_, rfl, ?_⟩; replace HO925 := a0_ (Kd.R_below (kR_ HO925.out) hb); replace HO928 := a0_ (Kd.R_below (kR_ HO928.out) hb); replace BK916 := a0_ (bkB_ BK916 hb); replace HB := a0_ (below_step bq1_ hb); clear hb; obtain ⟨Ao22, co22, eo22⟩ := Kd.R_slice HO925.out; subst eo22))
     go_loopg [5, 6, 35] kj5 (fun kq v5 v6 v35 w' => ∃ (x5_3 : List ByteArray) (x6_3 : ByteArray) (x35_3 : Int), v6 = .string x6_3 ∧ v35 = .int .i64 x35_3 ∧ Aside0 (spec_l4Bytes.l0 kq x3_5 x5_3 x6_3 y923 (y923.length : Int) x35_3 a0_0 a0_1 a0_2 a0_3 a0_4 a0_5 l0_6 l0_7 = some r) ∧ Aside0 (kq ≤ kj5) ∧ Aside0 (Kd.R Kd.string 9 w' w.heap.size (fun _ => True) v5 x5_3) ∧ Aside0 (Kd.R k45 45 w' w.heap.size (fun _ => True) (.slice Ao22 y923.length co22) y923) ∧ Aside0 (w'.heap[gb916]? = some (.cells #[.int .i64 a0_0, .bool a0_1, .bool a0_2, .int .i64 a0_3, .string a0_4, .int .i64 a0_5, (.slice A0_6 l0_6.length c0_6), (.slice A0_7 l0_7.length c0_7)] 62 (0, 0))) ∧ Aside0 (Below w.heap.size w w'))
     case atStart => exact ⟨(y926), (t929), (0), rs_, rs_, H', ⟨Nat.le_refl _⟩, ⟨kR_ HO928.out⟩, ⟨kR_ HO925.out⟩, ⟨bz_⟩, ⟨bq1_⟩⟩
     case round =>
      clear H'
      try clear c1
      try clear p2
      try clear c5
      try clear c8
      try clear c9
      try clear c10
      try clear z17_0 z17_1 z17_2 z17_3 z17_4 z17_5 z17_6 z17_7
      try clear z20_0 z20_1 z20_2 z20_3 z20_4 z20_5 z20_6 z20_7
      try clear z4_0 z4_1 z4_2 z4_3 z4_4 z4_5 z4_6 z4_7
      try clear z7_0 z7_1 z7_2 z7_3 z7_4 z7_5 z7_6 z7_7
      try clear q17_0 q17_1 q17_2 q17_3 q17_4 q17_5 q17_6 q17_7
      try clear q20_0 q20_1 q20_2 q20_3 q20_4 q20_5 q20_6 q20_7
      try clear q4_0 q4_1 q4_2 q4_3 q4_4 q4_5 q4_6 q4_7
      try clear q7_0 q7_1 q7_2 q7_3 q7_4 q7_5 q7_6 q7_7
      try clear p2
      obtain ⟨x5_3, x6_3, x35_3, rfl, rfl, HA, HK3, HO_5, HO_33, BK916, HB⟩ := hrel
      cases gk with
      | zero => exact absurd HA.out (by simp [spec_l4Bytes.l0])
      | succ k3 =>
       have H := HA.out
       clear HA
       simp only [spec_l4Bytes.l0] at H
       by_cases c23 : x35_3 < (y923.length : Int)
       case pos =>
        rw [if_pos c23] at H
        have c23b0 := decide_eq_true c23
        clear c23
        by_cases c24 : 0 ≤ x35_3
        case neg =>
         rw [if_neg c24] at H
         exact absurd H (by simp)
        rw [if_pos c24] at H
        have c24b0 := decide_eq_true c24
        clear c24
        by_cases c25 : x35_3 < (y923.length : Int)
        case neg =>
         rw [if_neg c25] at H
         exact absurd H (by simp)
        rw [if_pos c25] at H
        have c25b0 := decide_eq_true c25
        clear c25
        by_cases c26 : x5_3.length < 8796093022208
        case neg =>
         rw [if_neg c26] at H
         exact absurd H (by simp)
        rw [if_pos c26] at H
        have LMc26 := a0_ c26
        clear c26
        obtain ⟨y932, hy932⟩ : ∃ y_ : List ByteArray, y_ = (x5_3 ++ [(rd_T45 y923 x35_3).f0]) := ⟨_, rfl⟩
        rw [← hy932] at H
        have Ny932 := a0_ hy932
        clear hy932
        obtain ⟨⟨t935, t936⟩, A27, H⟩ := ob_ H
        obtain ⟨t937, A28, H⟩ := ob_ H
        obtain ⟨t938, A29, H⟩ := ob_ H
        by_cases c30 : t937.size + t938.size ≤ 9223372036854775807
        case neg =>
         rw [if_neg c30] at H
         exact absurd H (by simp)
        rw [if_pos c30] at H
        have c30b0 := eq_true c30
        have c30b1 := decide_eq_true c30
        try have c30b2 : (9223372036854775807 < t937.size + t938.size) = False := eq_false (Nat.not_lt.2 c30)
        obtain ⟨t939, A31, H⟩ := ob_ H
        by_cases c32 : (t937 ++ t938).size + t939.size ≤ 9223372036854775807
        case neg =>
         rw [if_neg c32] at H
         exact absurd H (by simp)
        rw [if_pos c32] at H
        have c32b0 := eq_true c32
        have c32b1 := decide_eq_true c32
        try have c32b2 : (9223372036854775807 < (t937 ++ t938).size + t939.size) = False := eq_false (Nat.not_lt.2 c32)
        (try (have c32b7 := c32b2; simp only [ByteArray.size_append, Nat.reduceAdd] at c32b7))
        by_cases c33 : ((t937 ++ t938) ++ t939).size + t935.size ≤ 9223372036854775807
        case neg =>
         rw [if_neg c33] at H
         exact absurd H (by simp)
        rw [if_pos c33] at H
        have c33b0 := eq_true c33
        have c33b1 := decide_eq_true c33
        try have c33b2 : (9223372036854775807 < ((t937 ++ t938) ++ t939).size + t935.size) = False := eq_false (Nat.not_lt.2 c33)
        (try (have c33b7 := c33b2; simp only [ByteArray.size_append, Nat.reduceAdd] at c33b7))
        by_cases c34 : x6_3.size + (((t937 ++ t938) ++ t939) ++ t935).size ≤ 9223372036854775807
        case neg =>
         rw [if_neg c34] at H
         exact absurd H (by simp)
        rw [if_pos c34] at H
        have c34b0 := eq_true c34
        have c34b1 := decide_eq_true c34
        try have c34b2 : (9223372036854775807 < x6_3.size + (((t937 ++ t938) ++ t939) ++ t935).size) = False := eq_false (Nat.not_lt.2 c34)
        (try (have c34b7 := c34b2; simp only [ByteArray.size_append, Nat.reduceAdd] at c34b7))
        have H' := a0_ H
        clear H
        have p930 := t0_ (x35_3)
        have q930 := tl_ (x35_3) (y923.length)
        obtain ⟨ad930, e930, hx930_0, hx930_1, hx930_2, hx930_3⟩ := at_T45 (Kd.R_reads' HO_33.out).2.2 x35_3 (of_eq_true p930) (of_eq_true q930)
        cases e930
        try go_wp2_with (first | ((with_reducible refine gate_dst (N := 8) rfl ?_); refine boxS_ 8 #[.string (⟨#[]⟩ : ByteArray), .int .i64 0, .int .i64 0, .string (⟨#[]⟩ : ByteArray)] 45 (fun gb931 hg w35 hbox hb => ?_); replace HO_5 := a0_ (Kd.R_below (kR_ HO_5.out) hb); replace HO_33 := a0_ (Kd.R_below (Kd.R_elderB (kR_ HO_33.out) gb931 (Nat.le_of_eq hg.symm)) hb); have BK931 := a0_ (hbox); have GW931 := a0_ (gw_ hg (below_size bq1_) : w.heap.size ≤ gb931); replace HB := a0_ (below_step bq1_ hb); have NB916_931 := a0_ ((by rw [hg]; exact Nat.ne_of_lt (blk_lt (g := gb916) (o := .cells #[.int .i64 a0_0, .bool a0_1, .bool a0_2, .int .i64 a0_3, .string a0_4, .int .i64 a0_5, .slice A0_6 l0_6.length c0_6, .slice A0_7 l0_7.length c0_7] 62 (0, 0)) (kB_ BK916.out)) : gb916 ≠ gb931)); have NB931_916 := a0_ ((by rw [hg]; exact Nat.ne_of_gt (blk_lt (g := gb916) (o := .cells #[.int .i64 a0_0, .bool a0_1, .bool a0_2, .int .i64 a0_3, .string a0_4, .int .i64 a0_5, .slice A0_6 l0_6.length c0_6, .slice A0_7 l0_7.length c0_7] 62 (0, 0)) (kB_ BK916.out)) : gb931 ≠ gb916)); replace BK916 := a0_ (bkB_ BK916 hb); have GE931 := GW931; clear hb hbox hg; have hnb36 := NB931_916.out; have hnc36 := NB916_931.out; obtain ⟨_, _, _, _, _, _, _, _⟩ := bk4_ BK931.out) | ((with_reducible refine gate_builtin (b := .append) (xs := #[.tmp 39, .tmp 42]) rfl ?_); at_builtin; refine Kd.R_append Kd.string (w0 := w) w.heap.size rfl (.tmp 39) (.tmp 42) 78 9 (.string ⟨#[]⟩) 16 rfl Tryz.underlying78 info9 rfl (by decide) (by omega) u5 x5_3 ((rd_T45 y923 x35_3).f0) [.string ((rd_T45 y923 x35_3).f0)] (fun _ => True) (fun _ => False) rfl (by first | (go_simp; done) | (go_simp; rfl)) ?aP (fun _ hk => hk.elim) ?aF ?aO ?aB ?aS ?aL ?_; (case aP => exact rfl); (case aB => exact bq1_); (case aF => exact (fun _ _ => trivial)); (case aO => exact (kR_ (Kd.R_mono (rf4_ gb931 (Kd.R_types HO_5.out BK931.out (by decide)) (fun _ hk => hk.2) (.string ((rd_T45 y923 x35_3).f0)) (.int .i64 ((rd_T45 y923 x35_3).f1)) (.int .i64 ((rd_T45 y923 x35_3).f2)) (.string ((rd_T45 y923 x35_3).f3))) (fun _ hk => trivial)))); (case aS => exact (below_size bq1_)); (case aL => have := LMc26.out; omega); intro v933 w38 ho hb hg hat; rw [← Ny932.out] at ho; replace HO_33 := a0_ (Kd.R_over' (kR_ (Kd.R_mono (rf4_ gb931 (Kd.R_mono HO_33.out (fun k_ hk => (⟨hk, hk.2⟩ : _ ∧ k_ ≠ gb931))) (fun _ hk => hk.2) (.string ((rd_T45 y923 x35_3).f0)) (.int .i64 ((rd_T45 y923 x35_3).f1)) (.int .i64 ((rd_T45 y923 x35_3).f2)) (.string ((rd_T45 y923 x35_3).f3))) (fun _ h_ => h_.1))) (Kd.R_typed (kR_ (farR4_ HO_5.out BK931.out))) (by decide) hg); replace BK916 := a0_ (blk_grown (g := gb916) (o := .cells #[.int .i64 a0_0, .bool a0_1, .bool a0_2, .int .i64 a0_3, .string a0_4, .int .i64 a0_5, .slice A0_6 l0_6.length c0_6, .slice A0_7 l0_7.length c0_7] 62 (0, 0)) (bfar4_ NB916_931.out BK916.out) hg (Kd.R_ne HO_5.out BK916.out (by decide))); replace BK931 := a0_ (blk_grown (g := gb931) (o := .cells #[.string ((rd_T45 y923 x35_3).f0), .int .i64 ((rd_T45 y923 x35_3).f1), .int .i64 ((rd_T45 y923 x35_3).f2), .string ((rd_T45 y923 x35_3).f3)] 45 (0, 0)) (put4_ BK931.out) hg (Kd.R_ne HO_5.out BK931.out (by decide))); replace HB := a0_ (hb); have HO934 := a0_ (ho); clear HO_5; clear ho hb hg hat; obtain ⟨_, _, _, _, _, _, _, _⟩ := bk4_ BK931.out) | ((with_reducible refine gt_ 55 rfl ?_); refine gs_ 49 Tryz.func55 #[.int .i64 ((rd_T45 y923 x35_3).f1), .string ((rd_T45 y923 x35_3).f3)] ?_; (with_reducible refine (spec_l3Bytes.calls k3 ((rd_T45 y923 x35_3).f1) ((rd_T45 y923 x35_3).f3) t935 t936 _ A27.out).mono ?_); rintro e w40 ⟨rfl, hb⟩; refine ⟨_, rfl, ?_⟩; replace HO_33 := a0_ (Kd.R_below (kR_ HO_33.out) hb); replace HO934 := a0_ (Kd.R_below (kR_ HO934.out) hb); replace BK916 := a0_ (bkB_ BK916 hb); replace BK931 := a0_ (bkB_ BK931 hb); replace HB := a0_ (below_step bq1_ hb); clear hb))
        replace HO_33 := a0_ (Kd.R_drew HO_33.out)
        replace HO934 := a0_ (Kd.R_drew HO934.out)
        replace BK916 := a0_ (blk_drew BK916.out)
        replace BK931 := a0_ (blk_drew BK931.out)
        replace HB := a0_ (below_drew1 HB.out)
        refine stH_ 16 [] (eb_ BK931.out) (fun hHeld => ?_); refine with_tabW spec_l4Bytes.tab14 spec_l4Bytes.bits14 (fun HT_ HW_ => ?_)
        generalize w40.drew = w41 at HO_33 HO934 BK916 BK931 HB hHeld ⊢
        refine p_ 0 52 ?_
        refine p_ 1 53 ?_
        refine p_ 4 56 ?_
        refine p_ 8 60 ?_
        refine p_ 9 61 ?_
        refine p_ 12 64 ?_
        refine t_ 2 54 ?_
        refine t_ 5 57 ?_
        refine oneS_ 3 (some 55) (fun K hK => ?_)
        refine goes_ Tryz.func118 (by kernel_rfl) rfl #[.int .i64 ((rd_T45 y923 x35_3).f1), .int .i64 1] (by rfl) rfl rfl argsS_ ?_
        with_reducible refine (spec_l3Number.calls k3 ((rd_T45 y923 x35_3).f1) 1 t937 _ A28.out).mono ?_
        rintro e w42 ⟨rfl, hb⟩
        refine ⟨_, rfl, ?_⟩
        replace HO_33 := a0_ (Kd.R_below (kR_ HO_33.out) hb)
        replace HO934 := a0_ (Kd.R_below (kR_ HO934.out) hb)
        replace BK916 := a0_ (bkB_ BK916 hb)
        replace BK931 := a0_ (bkB_ BK931 hb)
        replace HB := a0_ (below_step bq1_ hb)
        (try clear hb)
        (try clear hb2)
        (try clear hk)
        (try clear hi)
        refine hK.out _ _ (eb_ BK931.out).out (fun hHeld => ?_)
        clear hK K
        refine normS_ ?_
        refine oneS_ 6 (some 58) (fun K hK => ?_)
        refine goes_ Tryz.func118 (by kernel_rfl) rfl #[.int .i64 ((rd_T45 y923 x35_3).f2), .int .i64 3] (by rfl) rfl rfl argsS_ ?_
        with_reducible refine (spec_l3Number.calls k3 ((rd_T45 y923 x35_3).f2) 3 t938 _ A29.out).mono ?_
        rintro e w43 ⟨rfl, hb⟩
        refine ⟨_, rfl, ?_⟩
        replace HO_33 := a0_ (Kd.R_below (kR_ HO_33.out) hb)
        replace HO934 := a0_ (Kd.R_below (kR_ HO934.out) hb)
        replace BK916 := a0_ (bkB_ BK916 hb)
        replace BK931 := a0_ (bkB_ BK931 hb)
        replace HB := a0_ (below_step bq1_ hb)
        (try clear hb)
        (try clear hb2)
        (try clear hk)
        (try clear hi)
        refine hK.out _ _ (eb_ BK931.out).out (fun hHeld => ?_)
        clear hK K
        refine normS_ ?_
        refine p_ 7 59 ?_
        refine oneS_ 10 (some 62) (fun K hK => ?_)
        refine goes_ Tryz.func118 (by kernel_rfl) rfl #[.int .i64 (t935.size : Int), .int .i64 1] (by rfl) rfl rfl argsS_ ?_
        with_reducible refine (spec_l3Number.calls k3 (t935.size : Int) 1 t939 _ A31.out).mono ?_
        rintro e w44 ⟨rfl, hb⟩
        refine ⟨_, rfl, ?_⟩
        replace HO_33 := a0_ (Kd.R_below (kR_ HO_33.out) hb)
        replace HO934 := a0_ (Kd.R_below (kR_ HO934.out) hb)
        replace BK916 := a0_ (bkB_ BK916 hb)
        replace BK931 := a0_ (bkB_ BK931 hb)
        replace HB := a0_ (below_step bq1_ hb)
        (try clear hb)
        (try clear hb2)
        (try clear hk)
        (try clear hi)
        refine hK.out _ _ (eb_ BK931.out).out (fun hHeld => ?_)
        clear hK K
        refine normS_ ?_
        refine p_ 11 63 ?_
        refine p_ 13 65 ?_
        refine p_ 14 66 ?_
        refine p_ 15 6 ?_
        refine done_ (done_of HT_.out (by kernel_rfl)) ?_
        try go_wp2
        go_roundg k3
        case measure => have := HJ1.out; have := HJ5.out; have := HK3.out; omega
        case rel => exact ⟨(y932), (x6_3 ++ (((t937 ++ t938) ++ t939) ++ t935)), (wrap64 (x35_3 + 1)), rs_, rs_, H', jn_ HJ1 HJ5 HK3, ⟨kR_ HO934.out⟩, ⟨kR_ (Kd.R_mono HO_33.out (fun _ hk => trivial))⟩, ⟨bz_⟩, ⟨bq1_⟩⟩
       rw [if_neg c23] at H
       have c23b0 := decide_eq_false c23
       clear c23
       obtain ⟨t940, A45, H⟩ := ob_ H
       obtain ⟨t941, A46, H⟩ := ob_ H
       obtain ⟨t942, A47, H⟩ := ob_ H
       by_cases c48 : t941.size + t942.size ≤ 9223372036854775807
       case neg =>
        rw [if_neg c48] at H
        exact absurd H (by simp)
       rw [if_pos c48] at H
       have c48b0 := eq_true c48
       have c48b1 := decide_eq_true c48
       try have c48b2 : (9223372036854775807 < t941.size + t942.size) = False := eq_false (Nat.not_lt.2 c48)
       obtain ⟨t943, A49, H⟩ := ob_ H
       by_cases c50 : (t941 ++ t942).size + t943.size ≤ 9223372036854775807
       case neg =>
        rw [if_neg c50] at H
        exact absurd H (by simp)
       rw [if_pos c50] at H
       have c50b0 := eq_true c50
       have c50b1 := decide_eq_true c50
       try have c50b2 : (9223372036854775807 < (t941 ++ t942).size + t943.size) = False := eq_false (Nat.not_lt.2 c50)
       (try (have c50b7 := c50b2; simp only [ByteArray.size_append, Nat.reduceAdd] at c50b7))
       obtain ⟨t944, A51, H⟩ := ob_ H
       by_cases c52 : ((t941 ++ t942) ++ t943).size + t944.size ≤ 9223372036854775807
       case neg =>
        rw [if_neg c52] at H
        exact absurd H (by simp)
       rw [if_pos c52] at H
       have c52b0 := eq_true c52
       have c52b1 := decide_eq_true c52
       try have c52b2 : (9223372036854775807 < ((t941 ++ t942) ++ t943).size + t944.size) = False := eq_false (Nat.not_lt.2 c52)
       (try (have c52b7 := c52b2; simp only [ByteArray.size_append, Nat.reduceAdd] at c52b7))
       obtain ⟨t945, A53, H⟩ := ob_ H
       by_cases c54 : (((t941 ++ t942) ++ t943) ++ t944).size + t945.size ≤ 9223372036854775807
       case neg =>
        rw [if_neg c54] at H
        exact absurd H (by simp)
       rw [if_pos c54] at H
       have c54b0 := eq_true c54
       have c54b1 := decide_eq_true c54
       try have c54b2 : (9223372036854775807 < (((t941 ++ t942) ++ t943) ++ t944).size + t945.size) = False := eq_false (Nat.not_lt.2 c54)
       (try (have c54b7 := c54b2; simp only [ByteArray.size_append, Nat.reduceAdd] at c54b7))
       obtain ⟨t946, A55, H⟩ := ob_ H
       by_cases c56 : ((((t941 ++ t942) ++ t943) ++ t944) ++ t945).size + t946.size ≤ 9223372036854775807
       case neg =>
        rw [if_neg c56] at H
        exact absurd H (by simp)
       rw [if_pos c56] at H
       have c56b0 := eq_true c56
       have c56b1 := decide_eq_true c56
       try have c56b2 : (9223372036854775807 < ((((t941 ++ t942) ++ t943) ++ t944) ++ t945).size + t946.size) = False := eq_false (Nat.not_lt.2 c56)
       (try (have c56b7 := c56b2; simp only [ByteArray.size_append, Nat.reduceAdd] at c56b7))
       by_cases c57 : (((((t941 ++ t942) ++ t943) ++ t944) ++ t945) ++ t946).size + t940.size ≤ 9223372036854775807
       case neg =>
        rw [if_neg c57] at H
        exact absurd H (by simp)
       rw [if_pos c57] at H
       have c57b0 := eq_true c57
       have c57b1 := decide_eq_true c57
       try have c57b2 : (9223372036854775807 < (((((t941 ++ t942) ++ t943) ++ t944) ++ t945) ++ t946).size + t940.size) = False := eq_false (Nat.not_lt.2 c57)
       (try (have c57b7 := c57b2; simp only [ByteArray.size_append, Nat.reduceAdd] at c57b7))
       by_cases c58 : ((((((t941 ++ t942) ++ t943) ++ t944) ++ t945) ++ t946) ++ t940).size + x6_3.size ≤ 9223372036854775807
       case neg =>
        rw [if_neg c58] at H
        exact absurd H (by simp)
       rw [if_pos c58] at H
       have c58b0 := eq_true c58
       have c58b1 := decide_eq_true c58
       try have c58b2 : (9223372036854775807 < ((((((t941 ++ t942) ++ t943) ++ t944) ++ t945) ++ t946) ++ t940).size + x6_3.size) = False := eq_false (Nat.not_lt.2 c58)
       (try (have c58b7 := c58b2; simp only [ByteArray.size_append, Nat.reduceAdd] at c58b7))
       obtain rfl := Option.some.inj H
       obtain ⟨Ao59, co59, eo59⟩ := Kd.R_slice HO_5.out
       subst eo59
       try go_wp2_with (first | ((with_reducible refine gt_ 159 rfl ?_); refine gs_ 69 Tryz.func159 #[.slice Ao59 x5_3.length co59] ?_; (with_reducible refine (spec_l4Names.calls k3 _ _ x5_3 t940 _ ?side1 ?side2 A45.out).mono ?_); (case side1 => exact kD_ (Kd.R_reads' HO_5.out).2.2); (case side2 => exact (Kd.R_reads' HO_5.out).2.1); rintro e w60 ⟨rfl, hb⟩; refine ⟨_, rfl, ?_⟩; replace HO_5 := a0_ (Kd.R_below (kR_ HO_5.out) hb); replace HO_33 := a0_ (Kd.R_below (kR_ HO_33.out) hb); replace BK916 := a0_ (bkB_ BK916 hb); replace HB := a0_ (below_step bq1_ hb); clear hb))
       replace HO_5 := a0_ (Kd.R_drew HO_5.out)
       replace HO_33 := a0_ (Kd.R_drew HO_33.out)
       replace BK916 := a0_ (blk_drew BK916.out)
       replace HB := a0_ (below_drew1 HB.out)
       refine start_ (n := 29) (S := fun w' => w'.cell? ⟨gb916, 0, none⟩ = some (.int .i64 a0_0) ∧ w'.cell? ⟨gb916, 1, none⟩ = some (.bool a0_1) ∧ w'.cell? ⟨gb916, 2, none⟩ = some (.bool a0_2) ∧ w'.cell? ⟨gb916, 3, none⟩ = some (.int .i64 a0_3) ∧ w'.cell? ⟨gb916, 4, none⟩ = some (.string a0_4) ∧ w'.cell? ⟨gb916, 5, none⟩ = some (.int .i64 a0_5) ∧ w'.cell? ⟨gb916, 6, none⟩ = some (.slice A0_6 l0_6.length c0_6) ∧ w'.cell? ⟨gb916, 7, none⟩ = some (.slice A0_7 l0_7.length c0_7)) (ds := []) #[false, false, false, false, false, false, false, false, false, false, false, false, false, false, false, false, false, false, false, false, false, false, false, false, false, false, false, false, false] (by kernel_rfl) rfl rfl ⟨(blk_cell BK916.out 0).trans rfl, (blk_cell BK916.out 1).trans rfl, (blk_cell BK916.out 2).trans rfl, (blk_cell BK916.out 3).trans rfl, (blk_cell BK916.out 4).trans rfl, (blk_cell BK916.out 5).trans rfl, (blk_cell BK916.out 6).trans rfl, (blk_cell BK916.out 7).trans rfl⟩ (fun hHeld => ?_); refine with_tabW spec_l4Bytes.tab17 spec_l4Bytes.bits17 (fun HT_ HW_ => ?_)
       generalize w60.drew = w61 at HO_5 HO_33 BK916 HB hHeld ⊢
       refine p_ 0 70 ?_
       refine p_ 3 73 ?_
       refine p_ 6 76 ?_
       refine p_ 10 80 ?_
       refine p_ 15 85 ?_
       refine p_ 20 90 ?_
       refine p_ 21 91 ?_
       refine p_ 24 94 ?_
       refine p_ 26 96 ?_
       refine t_ 1 71 ?_
       refine t_ 7 77 ?_
       refine t_ 11 81 ?_
       refine p_ 12 82 ?_
       refine t_ 16 86 ?_
       refine p_ 17 87 ?_
       refine oneS_ 2 (some 72) (fun K hK => ?_)
       refine goes_ Tryz.func118 (by kernel_rfl) rfl #[.int .i64 a0_0, .int .i64 2] (by rfl) rfl rfl argsS_ ?_
       with_reducible refine (spec_l3Number.calls k3 a0_0 2 t941 _ A46.out).mono ?_
       rintro e w62 ⟨rfl, hb⟩
       refine ⟨_, rfl, ?_⟩
       replace HO_5 := a0_ (Kd.R_below (kR_ HO_5.out) hb)
       replace HO_33 := a0_ (Kd.R_below (kR_ HO_33.out) hb)
       replace BK916 := a0_ (bkB_ BK916 hb)
       replace HB := a0_ (below_step bq1_ hb)
       (try clear hb)
       (try clear hb2)
       (try clear hk)
       (try clear hi)
       refine hK.out _ _ ⟨(blk_cell BK916.out 0).trans rfl, (blk_cell BK916.out 1).trans rfl, (blk_cell BK916.out 2).trans rfl, (blk_cell BK916.out 3).trans rfl, (blk_cell BK916.out 4).trans rfl, (blk_cell BK916.out 5).trans rfl, (blk_cell BK916.out 6).trans rfl, (blk_cell BK916.out 7).trans rfl⟩ (fun hHeld => ?_)
       clear hK K
       refine normS_ ?_
       refine oneS_ 4 (some 74) (fun K hK => ?_)
       refine goes_ Tryz.func118 (by kernel_rfl) rfl #[.int .i64 x3_5, .int .i64 1] (by rfl) rfl rfl argsS_ ?_
       with_reducible refine (spec_l3Number.calls k3 x3_5 1 t942 _ A47.out).mono ?_
       rintro e w63 ⟨rfl, hb⟩
       refine ⟨_, rfl, ?_⟩
       replace HO_5 := a0_ (Kd.R_below (kR_ HO_5.out) hb)
       replace HO_33 := a0_ (Kd.R_below (kR_ HO_33.out) hb)
       replace BK916 := a0_ (bkB_ BK916 hb)
       replace HB := a0_ (below_step bq1_ hb)
       (try clear hb)
       (try clear hb2)
       (try clear hk)
       (try clear hi)
       refine hK.out _ _ ⟨(blk_cell BK916.out 0).trans rfl, (blk_cell BK916.out 1).trans rfl, (blk_cell BK916.out 2).trans rfl, (blk_cell BK916.out 3).trans rfl, (blk_cell BK916.out 4).trans rfl, (blk_cell BK916.out 5).trans rfl, (blk_cell BK916.out 6).trans rfl, (blk_cell BK916.out 7).trans rfl⟩ (fun hHeld => ?_)
       clear hK K
       refine normS_ ?_
       refine p_ 5 75 ?_
       refine oneS_ 8 (some 78) (fun K hK => ?_)
       refine goes_ Tryz.func118 (by kernel_rfl) rfl #[.int .i64 a0_3, .int .i64 1] (by rfl) rfl rfl argsS_ ?_
       with_reducible refine (spec_l3Number.calls k3 a0_3 1 t943 _ A49.out).mono ?_
       rintro e w64 ⟨rfl, hb⟩
       refine ⟨_, rfl, ?_⟩
       replace HO_5 := a0_ (Kd.R_below (kR_ HO_5.out) hb)
       replace HO_33 := a0_ (Kd.R_below (kR_ HO_33.out) hb)
       replace BK916 := a0_ (bkB_ BK916 hb)
       replace HB := a0_ (below_step bq1_ hb)
       (try clear hb)
       (try clear hb2)
       (try clear hk)
       (try clear hi)
       refine hK.out _ _ ⟨(blk_cell BK916.out 0).trans rfl, (blk_cell BK916.out 1).trans rfl, (blk_cell BK916.out 2).trans rfl, (blk_cell BK916.out 3).trans rfl, (blk_cell BK916.out 4).trans rfl, (blk_cell BK916.out 5).trans rfl, (blk_cell BK916.out 6).trans rfl, (blk_cell BK916.out 7).trans rfl⟩ (fun hHeld => ?_)
       clear hK K
       refine normS_ ?_
       refine p_ 9 79 ?_
       refine oneS_ 13 (some 83) (fun K hK => ?_)
       refine goes_ Tryz.func118 (by kernel_rfl) rfl #[.int .i64 (l0_6.length : Int), .int .i64 1] (by rfl) rfl rfl argsS_ ?_
       with_reducible refine (spec_l3Number.calls k3 (l0_6.length : Int) 1 t944 _ A51.out).mono ?_
       rintro e w65 ⟨rfl, hb⟩
       refine ⟨_, rfl, ?_⟩
       replace HO_5 := a0_ (Kd.R_below (kR_ HO_5.out) hb)
       replace HO_33 := a0_ (Kd.R_below (kR_ HO_33.out) hb)
       replace BK916 := a0_ (bkB_ BK916 hb)
       replace HB := a0_ (below_step bq1_ hb)
       (try clear hb)
       (try clear hb2)
       (try clear hk)
       (try clear hi)
       refine hK.out _ _ ⟨(blk_cell BK916.out 0).trans rfl, (blk_cell BK916.out 1).trans rfl, (blk_cell BK916.out 2).trans rfl, (blk_cell BK916.out 3).trans rfl, (blk_cell BK916.out 4).trans rfl, (blk_cell BK916.out 5).trans rfl, (blk_cell BK916.out 6).trans rfl, (blk_cell BK916.out 7).trans rfl⟩ (fun hHeld => ?_)
       clear hK K
       refine normS_ ?_
       refine p_ 14 84 ?_
       refine oneS_ 18 (some 88) (fun K hK => ?_)
       refine goes_ Tryz.func118 (by kernel_rfl) rfl #[.int .i64 (l0_7.length : Int), .int .i64 1] (by rfl) rfl rfl argsS_ ?_
       with_reducible refine (spec_l3Number.calls k3 (l0_7.length : Int) 1 t945 _ A53.out).mono ?_
       rintro e w66 ⟨rfl, hb⟩
       refine ⟨_, rfl, ?_⟩
       replace HO_5 := a0_ (Kd.R_below (kR_ HO_5.out) hb)
       replace HO_33 := a0_ (Kd.R_below (kR_ HO_33.out) hb)
       replace BK916 := a0_ (bkB_ BK916 hb)
       replace HB := a0_ (below_step bq1_ hb)
       (try clear hb)
       (try clear hb2)
       (try clear hk)
       (try clear hi)
       refine hK.out _ _ ⟨(blk_cell BK916.out 0).trans rfl, (blk_cell BK916.out 1).trans rfl, (blk_cell BK916.out 2).trans rfl, (blk_cell BK916.out 3).trans rfl, (blk_cell BK916.out 4).trans rfl, (blk_cell BK916.out 5).trans rfl, (blk_cell BK916.out 6).trans rfl, (blk_cell BK916.out 7).trans rfl⟩ (fun hHeld => ?_)
       clear hK K
       refine normS_ ?_
       refine p_ 19 89 ?_
       refine oneS_ 22 (some 92) (fun K hK => ?_)
       refine goes_ Tryz.func118 (by kernel_rfl) rfl #[.int .i64 (t940.size : Int), .int .i64 2] (by rfl) rfl rfl argsS_ ?_
       with_reducible refine (spec_l3Number.calls k3 (t940.size : Int) 2 t946 _ A55.out).mono ?_
       rintro e w67 ⟨rfl, hb⟩
       refine ⟨_, rfl, ?_⟩
       replace HO_5 := a0_ (Kd.R_below (kR_ HO_5.out) hb)
       replace HO_33 := a0_ (Kd.R_below (kR_ HO_33.out) hb)
       replace BK916 := a0_ (bkB_ BK916 hb)
       replace HB := a0_ (below_step bq1_ hb)
       (try clear hb)
       (try clear hb2)
       (try clear hk)
       (try clear hi)
       refine hK.out _ _ ⟨(blk_cell BK916.out 0).trans rfl, (blk_cell BK916.out 1).trans rfl, (blk_cell BK916.out 2).trans rfl, (blk_cell BK916.out 3).trans rfl, (blk_cell BK916.out 4).trans rfl, (blk_cell BK916.out 5).trans rfl, (blk_cell BK916.out 6).trans rfl, (blk_cell BK916.out 7).trans rfl⟩ (fun hHeld => ?_)
       clear hK K
       refine normS_ ?_
       refine p_ 23 93 ?_
       refine p_ 25 95 ?_
       refine p_ 27 97 ?_
       refine p_ 28 2 ?_
       refine done_ (done_of HT_.out (by kernel_rfl)) ?_
       try go_wp2
       go_ret
       exact ⟨rr_, bq1_⟩
end Go.Proofs.YtiegkjimpclmaaaGreatDoor.P
