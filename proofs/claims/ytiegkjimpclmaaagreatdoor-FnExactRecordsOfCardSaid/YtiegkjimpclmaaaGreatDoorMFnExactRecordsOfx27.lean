/- FnExactRecordsOf: part 28 of 28 of my texts for this claim, joined; the theorem stands in the last. Conditions: none beyond the statement's. -/
import Derived.Test.YtiegkjimpclmaaaGreatDoorMFnExactRecordsOfx26
import Derived.Test.YtiegkjimpclmaaaGreatDoorCards
import Derived.Test.YtiegkjimpclmaaaGreatDoorTie
import Derived.Deep.DeepHandedRow
import Derived.Stop.LaidErr
namespace Go.Proofs.YtiegkjimpclmaaaGreatDoor.Pure
open Go.RowKit Go.Proofs.YtiegkjimpclmaaaGreatDoor.P Go.Proofs.YtiegkjimpclmaaaGreatDoorW.PrintWords Go.Proofs.YtiegkjimpclmaaaGreatDoorW.PrintLast Go.Proofs.YtiegkjimpclmaaaGreatDoorW.PrintMore
set_option linter.unusedVariables false
set_option linter.unusedSimpArgs false
def valG (o : Option (List SSet)) : List SSet × Bool := match o with | none => ([], false) | some S => (S, decide ((S.length : Int) ≤ 40))
theorem l3_same (k : Nat) (acc : List SSet) (x7 : Int) (all : List IRec) (n i : Int) (a : ByteArray) (b c : Int) (d : ByteArray) : spec_l3Sets.j1 (k + 1) acc x7 all n i true a b c d = (if 0 ≤ x7 then (if x7 < (acc.length : Int) then (if ((rd_T83 acc x7).f2) = c then (if ((rd_T83 acc x7).f3).length < 8796093022208 then (spec_l3Sets.l0 k (acc.set (x7 : Int).toNat (⟨(rd_T83 acc x7).f0, (rd_T83 acc x7).f1, (rd_T83 acc x7).f2, (((rd_T83 acc x7).f3) ++ [d])⟩ : SSet)) all n (wrap64 (i + 1))) else (none)) else (some (([] : List SSet), false))) else (none)) else (none)) := rfl
theorem l3_new (k : Nat) (acc : List SSet) (x7 : Int) (all : List IRec) (n i : Int) (a : ByteArray) (b c : Int) (d : ByteArray) : spec_l3Sets.j1 (k + 1) acc x7 all n i false a b c d = (if acc.length < 2513169434916 then (spec_l3Sets.l0 k (acc ++ [(⟨a, b, c, (([d] : List ByteArray))⟩ : SSet)]) all n (wrap64 (i + 1))) else (none)) := rfl
theorem l3_loop (all : List IRec) (hl : all.length < 1099511627776) : ∀ (m i : Nat) (acc : List SSet), i + m = all.length → acc.length ≤ i → (∀ s ∈ acc, s.f3.length ≤ i) → Ev (fun k => spec_l3Sets.l0 k acc all (all.length : Int) (i : Int)) (valG (gf acc (all.drop i)))
 | 0, i, acc, hi, ha, hs => by
  rw [List.drop_of_length_le (by omega)]
  refine Ev.step (f := fun _ => some (acc, decide ((acc.length : Int) ≤ 40))) (fun k => ?_) (Ev.now _)
  show spec_l3Sets.l0 (k + 1) acc all (all.length : Int) (i : Int) = _
  rw [spec_l3Sets.l0, if_neg (by omega)]
 | m + 1, i, acc, hi, ha, hs => by
  have hlt : i < all.length := by omega
  have hw : wrap64 ((i : Int) + 1) = ((i + 1 : Nat) : Int) := w64n (by omega)
  rw [List.drop_eq_getElem_cons hlt]
  show Ev _ (valG ((gstep acc all[i]).bind fun a => gf a (all.drop (i + 1))))
  have hnew : ∀ x7 : Int, Ev (fun k => spec_l3Sets.j1 k acc x7 all (all.length : Int) (i : Int) false all[i].f0 all[i].f1 all[i].f2 all[i].f3) (valG (gf (acc ++ [new all[i]]) (all.drop (i + 1)))) := by
   intro x7
   have ih := l3_loop all hl m (i + 1) (acc ++ [new all[i]]) (by omega) (by rw [List.length_append, List.length_singleton]; omega) (fun s h => by
    rcases List.mem_append.1 h with h | h
    · have := hs s h; omega
    · rw [List.mem_singleton.1 h]; simp [new])
   refine Ev.step (fun k => ?_) ih
   rw [l3_new, if_pos (by omega), hw]
   rfl
  have e0 : ∀ k, spec_l3Sets.l0 (k + 1) acc all (all.length : Int) (i : Int) = (if (wrap64 ((acc.length : Int) - 1)) ≥ 0 then (if 0 ≤ (wrap64 ((acc.length : Int) - 1)) then (if (wrap64 ((acc.length : Int) - 1)) < (acc.length : Int) then (if ((rd_T83 acc (wrap64 ((acc.length : Int) - 1))).f0).toList = all[i].f0.toList then (spec_l3Sets.j1 k acc (wrap64 ((acc.length : Int) - 1)) all (all.length : Int) (i : Int) (((rd_T83 acc (wrap64 ((acc.length : Int) - 1))).f1) == all[i].f1) all[i].f0 all[i].f1 all[i].f2 all[i].f3) else (spec_l3Sets.j1 k acc (wrap64 ((acc.length : Int) - 1)) all (all.length : Int) (i : Int) false all[i].f0 all[i].f1 all[i].f2 all[i].f3)) else (none)) else (none)) else (spec_l3Sets.j1 k acc (wrap64 ((acc.length : Int) - 1)) all (all.length : Int) (i : Int) false all[i].f0 all[i].f1 all[i].f2 all[i].f3)) := fun k => by
   rw [spec_l3Sets.l0, if_pos (by omega), if_pos (by omega), if_pos (by omega), rdI all i hlt]
  refine Ev.step e0 ?_
  unfold gstep
  rcases List.eq_nil_or_concat acc with rfl | ⟨pre, q, rfl⟩
  · have hww : wrap64 ((([] : List SSet).length : Int) - 1) = -1 := by show wrap64 (((0 : Nat) : Int) - 1) = -1; unfold wrap64; omega
    simp only [hww, if_neg (show ¬ ((-1 : Int) ≥ 0) by omega), List.getLast?_nil, Option.bind_some]
    exact hnew _
  · rw [List.concat_eq_append] at *
    have hlen : (pre ++ [q]).length = pre.length + 1 := by simp
    have hww : wrap64 (((pre ++ [q]).length : Int) - 1) = (pre.length : Int) := by rw [hlen, w64p (by omega) (by omega)]; rfl
    have hrd : rd_T83 (pre ++ [q]) (pre.length : Int) = q := by rw [rdSS _ _ (by omega)]; simp
    simp only [hww, hrd, if_pos (show (pre.length : Int) ≥ 0 by omega), if_pos (show (0 : Int) ≤ (pre.length : Int) by omega), if_pos (show (pre.length : Int) < ((pre ++ [q]).length : Int) by omega), List.getLast?_append, List.getLast?_singleton, Option.some_or]
    by_cases h0 : q.f0 = all[i].f0
    · simp only [if_pos ((toL_iff _ _).2 h0)]
      by_cases h1 : q.f1 = all[i].f1
      · rw [if_pos ⟨h0, h1⟩, show (q.f1 == all[i].f1) = true by rw [h1]; exact beq_self_eq_true _]
        by_cases h2 : q.f2 = all[i].f2
        · rw [if_pos h2, Option.bind_some]
          have hq3 := hs q (by simp)
          have hset : (pre ++ [q]).set ((pre ++ [q]).length - 1) (⟨q.f0, q.f1, q.f2, q.f3 ++ [all[i].f3]⟩ : SSet) = (pre ++ [q]).set pre.length (⟨q.f0, q.f1, q.f2, q.f3 ++ [all[i].f3]⟩ : SSet) := by rw [hlen, Nat.add_sub_cancel]
          rw [hset]
          have ih := l3_loop all hl m (i + 1) ((pre ++ [q]).set pre.length (⟨q.f0, q.f1, q.f2, q.f3 ++ [all[i].f3]⟩ : SSet)) (by omega) (by rw [List.length_set]; omega) (fun s h => by
           rcases List.mem_or_eq_of_mem_set h with h | rfl
           · have := hs s h; omega
           · show (q.f3 ++ [all[i].f3]).length ≤ i + 1
             rw [List.length_append, List.length_singleton]; omega)
          refine Ev.step (fun k => ?_) ih
          rw [l3_same, if_pos (by omega), if_pos (by omega), hrd, if_pos h2, if_pos (by omega), hw, Int.toNat_natCast]
        · rw [if_neg h2]
          refine Ev.step (f := fun _ => some (([] : List SSet), false)) (fun k => ?_) (Ev.now _)
          rw [l3_same, if_pos (by omega), if_pos (by omega), hrd, if_neg h2]
      · rw [if_neg (fun h => h1 h.2), beq_eq_false_iff_ne.2 h1, Option.bind_some]
        exact hnew _
    · simp only [if_neg (fun h => h0 ((toL_iff _ _).1 h))]
      rw [if_neg (fun h => h0 h.1), Option.bind_some]
      exact hnew _
theorem l3_ev (all : List IRec) (hl : all.length < 1099511627776) : Ev (fun k => spec_l3Sets.f k all) (valG (gf [] all)) :=
 Ev.congr (fun k => rfl) (l3_loop all hl all.length 0 [] (by omega) (by simp) (fun s h => by cases h))
theorem j3_t (k : Nat) (x : List IRec) : spec_RecordsOf.j3 (k + 1) x true = some (([] : List IRec), false) := rfl
theorem j3_f (k : Nat) (x : List IRec) : spec_RecordsOf.j3 (k + 1) x false = some (x, true) := rfl
theorem j3_ev (x : List IRec) (b : Bool) : Ev (fun k => spec_RecordsOf.j3 k x b) (valR x (!b)) := by
 cases b
 · exact Ev.step (f := fun _ => some (x, true)) (fun k => j3_f k x) (Ev.now _)
 · exact Ev.step (f := fun _ => some badR) (fun k => j3_t k x) (Ev.now _)
theorem j2_t (k : Nat) (l : List SSet) (x4 : List IRec) (n i : Int) (ds : List ByteArray) (u j : Int) (a : ByteArray) (b c : Int) (d3 : List ByteArray) (a' : ByteArray) (b' c' : Int) (d' : ByteArray) : spec_RecordsOf.j2 (k + 1) l x4 l n i ds u j true a b c d3 a' b' c' d' = some (([] : List IRec), false) := rfl
theorem j2_f (k : Nat) (l : List SSet) (x4 : List IRec) (n i : Int) (ds : List ByteArray) (u j : Int) (a : ByteArray) (b c : Int) (d3 : List ByteArray) (a' : ByteArray) (b' c' : Int) (d' : ByteArray) : spec_RecordsOf.j2 (k + 1) l x4 l n i ds u j false a b c d3 a' b' c' d' = (if x4.length < 2932031007402 then (spec_RecordsOf.l1 k l (x4 ++ [(⟨a', b', c', d'⟩ : IRec)]) l n i ds u (wrap64 (j + 1)) a b c d3) else (none)) := rfl
theorem sin_loop (l : List SSet) (i : Nat) (a : ByteArray) (b c : Int) (ds : List ByteArray) (R : List IRec × Bool) (hds : ds.length < 1099511627776) (ha : Small a) (hs : ∀ z ∈ ds, Small z) : ∀ (m j : Nat) (acc : List IRec), j + m = ds.length → acc.length + m < 1099511627776 → (∀ q, acc.getLast? = some q → gd q = true ∧ SmR q) →
 (rise acc.getLast? (recs a b c (ds.drop j)) = true → Ev (fun k => spec_RecordsOf.l0 k l (acc ++ recs a b c (ds.drop j)) l (l.length : Int) (wrap64 ((i : Int) + 1))) R) →
 Ev (fun k => spec_RecordsOf.l1 k l acc l (l.length : Int) (i : Int) ds (ds.length : Int) (j : Int) a b c ds) (if rise acc.getLast? (recs a b c (ds.drop j)) = true then R else badR)
 | 0, j, acc, hj, hb, hg, hR => by
  rw [List.drop_of_length_le (by omega)] at hR ⊢
  have hr : rise acc.getLast? (recs a b c []) = true := by simp [recs, rise]
  rw [if_pos hr]
  refine Ev.step (fun k => ?_) (hR hr)
  rw [spec_RecordsOf.l1, if_neg (by omega)]
  simp [recs]
 | m + 1, j, acc, hj, hb, hg, hR => by
  have hlt : j < ds.length := by omega
  have hsm : SmR (⟨a, b, c, ds[j]⟩ : IRec) := ⟨ha, hs _ (List.getElem_mem hlt)⟩
  have hd : recs a b c (ds.drop j) = (⟨a, b, c, ds[j]⟩ : IRec) :: recs a b c (ds.drop (j + 1)) := by rw [List.drop_eq_getElem_cons hlt]; rfl
  rw [hd] at hR ⊢
  have hrd : rdOf ByteArray.empty ds (j : Int) = ds[j] := mS_rd ds j hlt
  have e0 := fun k => show spec_RecordsOf.l1 (k + 1) l acc l (l.length : Int) (i : Int) ds (ds.length : Int) (j : Int) a b c ds = _ by
   rw [spec_RecordsOf.l1, if_pos (by omega), if_pos (by omega), if_pos (by omega), hrd]
  refine Ev.step e0 (Ev.bind (gd_ev _ hsm).2 ?_)
  cases hgd : gd (⟨a, b, c, ds[j]⟩ : IRec) with
  | false =>
   simp only [rise, hgd, Bool.false_and, Bool.false_eq_true, if_false]
   exact Ev.now _
  | true =>
   simp only [rise, hgd, Bool.true_and, if_true] at hR ⊢
   have hgo : acc.getLast?.all (fun q => decide (od q (⟨a, b, c, ds[j]⟩ : IRec) < 0)) = true → Ev (fun k => spec_RecordsOf.j2 k l acc l (l.length : Int) (i : Int) ds (ds.length : Int) (j : Int) false a b c ds a b c ds[j]) (if rise (some (⟨a, b, c, ds[j]⟩ : IRec)) (recs a b c (ds.drop (j + 1))) = true then R else badR) := by
    intro ho
    have hlast : (acc ++ [(⟨a, b, c, ds[j]⟩ : IRec)]).getLast? = some (⟨a, b, c, ds[j]⟩ : IRec) := by simp
    have ih := sin_loop l i a b c ds R hds ha hs m (j + 1) (acc ++ [(⟨a, b, c, ds[j]⟩ : IRec)]) (by omega) (by simp; omega) (fun q hq => by rw [hlast] at hq; cases hq; exact ⟨hgd, hsm⟩) (fun h => by
     rw [hlast] at h
     rw [List.append_assoc]
     exact hR (by rw [ho, h]; rfl))
    rw [hlast] at ih
    refine Ev.step (fun k => ?_) ih
    rw [j2_f, if_pos (by omega), w64n (by omega)]
   rcases List.eq_nil_or_concat acc with rfl | ⟨pre, q, rfl⟩
   · simp only [List.length_nil, if_neg (show ¬ (((0 : Nat) : Int) > 0) by omega), List.getLast?_nil, Option.all_none, Bool.true_and] at hgo ⊢
     exact hgo trivial
   · rw [List.concat_eq_append] at *
     have hlen : (pre ++ [q]).length = pre.length + 1 := by simp
     have hww : wrap64 (((pre ++ [q]).length : Int) - 1) = (pre.length : Int) := by rw [hlen, w64p (by omega) (by omega)]; rfl
     have hrq : rd_T45 (pre ++ [q]) (pre.length : Int) = q := by rw [rdI _ _ (by omega)]; simp
     have hlast : (pre ++ [q]).getLast? = some q := by simp
     obtain ⟨hq1, hq2⟩ := hg q hlast
     simp only [hww, hrq, if_pos (show ((pre ++ [q]).length : Int) > 0 by omega), if_pos (show (0 : Int) ≤ (pre.length : Int) by omega), if_pos (show (pre.length : Int) < ((pre ++ [q]).length : Int) by omega)]
     refine Ev.bind (od_ev hq2 hsm hq1 hgd).2 ?_
     by_cases ho : od q (⟨a, b, c, ds[j]⟩ : IRec) < 0
     · have hall : (pre ++ [q]).getLast?.all (fun q => decide (od q (⟨a, b, c, ds[j]⟩ : IRec) < 0)) = true := by rw [hlast]; exact decide_eq_true ho
       simp only [decide_eq_false (show ¬ od q (⟨a, b, c, ds[j]⟩ : IRec) ≥ 0 by omega), hall, Bool.true_and]
       exact hgo hall
     · have hall : (pre ++ [q]).getLast?.all (fun q => decide (od q (⟨a, b, c, ds[j]⟩ : IRec) < 0)) = false := by rw [hlast]; exact decide_eq_false ho
       simp only [decide_eq_true (show od q (⟨a, b, c, ds[j]⟩ : IRec) ≥ 0 by omega), hall, Bool.false_and, Bool.false_eq_true, if_false]
       exact Ev.step (f := fun _ => some badR) (fun k => j2_t ..) (Ev.now _)
def fin (l : List SSet) (all : List IRec) : Bool := (valG (gf [] all)).2 && (decide (all.length ≤ 60) && decide ((valG (gf [] all)).1.length = l.length))
theorem rise_last : ∀ (R : List IRec) (p : Option IRec), rise p R = true → ∀ r ∈ R, gd r = true
 | [], _, _, r, hr => by cases hr
 | x :: R, p, h, r, hr => by
  simp only [rise, Bool.and_eq_true] at h
  rcases List.mem_cons.1 hr with rfl | hr
  · exact h.1
  · exact rise_last R _ h.2.2 r hr
theorem sv_loop (l : List SSet) (hl : l.length + cntS l ≤ 1048576) (hs : ∀ s ∈ l, SmS s) : ∀ (m i : Nat) (acc : List IRec), i + m = l.length → acc ++ (l.drop i).flatMap recsOf = l.flatMap recsOf → (∀ q, acc.getLast? = some q → gd q = true ∧ SmR q) →
 Ev (fun k => spec_RecordsOf.l0 k l acc l (l.length : Int) (i : Int)) (valR (l.flatMap recsOf) (sv acc.getLast? (l.drop i) && fin l (l.flatMap recsOf)))
 | 0, i, acc, hi, ha, hg => by
  rw [List.drop_of_length_le (by omega)] at ha ⊢
  simp only [List.flatMap_nil, List.append_nil] at ha
  subst ha
  have hfl := flat_len l
  have e0 := fun k => show spec_RecordsOf.l0 (k + 1) l (l.flatMap recsOf) l (l.length : Int) (i : Int) = _ by
   rw [spec_RecordsOf.l0, if_neg (by omega)]
  refine Ev.step e0 (Ev.bind (l3_ev (l.flatMap recsOf) (by omega)) ?_)
  simp only [sv, Bool.true_and, fin]
  cases hv : (valG (gf [] (l.flatMap recsOf))).2 with
  | false =>
   simp only [Bool.false_eq_true, if_false, Bool.false_and]
   exact j3_ev _ true
  | true =>
   simp only [if_true, Bool.true_and]
   by_cases hc : (l.flatMap recsOf).length ≤ 60
   · simp only [if_neg (show ¬ ((l.flatMap recsOf).length : Int) > 60 by omega), decide_eq_true hc, Bool.true_and]
     have e : decide ((valG (gf [] (l.flatMap recsOf))).1.length = l.length) = !(((valG (gf [] (l.flatMap recsOf))).1.length : Int) != (l.length : Int)) := by
      rw [bne, Bool.not_not]
      by_cases h : (valG (gf [] (l.flatMap recsOf))).1.length = l.length
      · rw [decide_eq_true h, h, beq_self_eq_true]
      · rw [decide_eq_false h, beq_eq_false_iff_ne.2 (by omega)]
     rw [e]
     exact j3_ev _ _
   · simp only [if_pos (show ((l.flatMap recsOf).length : Int) > 60 by omega), decide_eq_false hc, Bool.false_and]
     exact j3_ev _ true
 | m + 1, i, acc, hi, ha, hg => by
  have hlt : i < l.length := by omega
  have hm : l[i] ∈ l := List.getElem_mem hlt
  have hd := List.drop_eq_getElem_cons hlt
  have hlen : acc.length + (l[i].f3.length + cntS (l.drop (i + 1))) = cntS l := by
   have := congrArg List.length ha
   rw [List.length_append, flat_len, flat_len, hd, cntS_cons] at this
   exact this
  rw [hd]
  have e0 := fun k => show spec_RecordsOf.l0 (k + 1) l acc l (l.length : Int) (i : Int) = _ by
   rw [spec_RecordsOf.l0, if_pos (by omega), if_pos (by omega), if_pos (by omega), rdSS l i hlt]
  refine Ev.step e0 ?_
  unfold sv
  by_cases hz : l[i].f3 = []
  · simp only [hz, List.length_nil, List.isEmpty_nil, Bool.not_true, Bool.false_and]
    exact Ev.now _
  · have hpos : 0 < l[i].f3.length := List.length_pos_iff.2 hz
    have he : (!l[i].f3.isEmpty) = true := by simp [hz]
    rw [he, Bool.true_and]
    simp only [if_neg (show ¬ ((l[i].f3.length : Int) = 0) by omega)]
    have hlast : (acc ++ recsOf l[i]).getLast? = (recsOf l[i]).getLast? := by
     rw [List.getLast?_append]
     rcases link_last l[i] hz with ⟨h, _⟩ | ⟨_, r, _, h, _⟩
     · cases h
     · rw [h]; rfl
    have hin := sin_loop l i l[i].f0 l[i].f1 l[i].f2 l[i].f3 (valR (l.flatMap recsOf) (sv (recsOf l[i]).getLast? (l.drop (i + 1)) && fin l (l.flatMap recsOf))) (by omega) (hs _ hm).1 (hs _ hm).2 l[i].f3.length 0 acc (by omega) (by omega) hg (fun hr => by
     rw [List.drop_zero] at hr ⊢
     have ih := sv_loop l hl hs m (i + 1) (acc ++ recsOf l[i]) (by omega) (by rw [← ha, hd, List.flatMap_cons, List.append_assoc]) (fun q hq => by
      rw [hlast] at hq
      have hq := List.mem_of_getLast? hq
      exact ⟨rise_last _ _ hr q hq, recs_small (hs _ hm) q hq⟩)
     rw [hlast] at ih
     rw [w64n (by omega)]
     exact ih)
    rw [List.drop_zero] at hin
    have e : valR (l.flatMap recsOf) ((rise acc.getLast? (recsOf l[i]) && sv (recsOf l[i]).getLast? (l.drop (i + 1))) && fin l (l.flatMap recsOf)) = (if rise acc.getLast? (recs l[i].f0 l[i].f1 l[i].f2 l[i].f3) = true then valR (l.flatMap recsOf) (sv (recsOf l[i]).getLast? (l.drop (i + 1)) && fin l (l.flatMap recsOf)) else badR) := by
     show valR _ ((rise acc.getLast? (recs l[i].f0 l[i].f1 l[i].f2 l[i].f3) && _) && _) = _
     cases rise acc.getLast? (recs l[i].f0 l[i].f1 l[i].f2 l[i].f3) with
     | false => rfl
     | true => rfl
    rw [e]
    exact hin
theorem specRO_ev (l : List SSet) (hl : l.length + cntS l ≤ 1048576) (hs : ∀ s ∈ l, SmS s) : Ev (fun k => spec_RecordsOf.f k l) (valR (l.flatMap recsOf) (sv none l && fin l (l.flatMap recsOf))) :=
 Ev.congr (fun k => rfl) (sv_loop l hl hs l.length 0 [] (by omega) (by simp) (fun q h => by cases h))
theorem tests_one (l : List SSet) : (decide (l.length ≤ 40) && iv none 0 l) = (sv none l && fin l (l.flatMap recsOf)) := by
 rw [Bool.eq_iff_iff]
 simp only [Bool.and_eq_true, decide_eq_true_eq, fin, flat_len]
 rw [iv_sv l none none 0 (Or.inl ⟨rfl, rfl⟩) (by omega)]
 constructor
 · rintro ⟨h40, h1, h2, h3⟩
   have hg := gf_all l [] (sv_full l none h1) h2
   rw [List.nil_append] at hg
   rw [hg]
   exact ⟨h1, decide_eq_true (by omega), by omega, rfl⟩
 · rintro ⟨h1, h2, h3, h4⟩
   cases hg : gf [] (l.flatMap recsOf) with
   | none => rw [hg] at h2; cases h2
   | some S =>
    rw [hg] at h2 h4
    have h2 : decide ((S.length : Int) ≤ 40) = true := h2
    have h4 : S.length = l.length := h4
    have h2 := of_decide_eq_true h2
    exact ⟨by omega, h1, (gf_len l [] S (sv_full l none h1) hg).2 (by simp [h4]), by omega⟩
theorem recsOf_both (l : List SSet) (hl : l.length + cntS l ≤ 1048576) (hs : ∀ s ∈ l, SmS s) : ∃ r b, Ev (fun k => spec_RecordsOf.f k l) (r, b) ∧ Ev (fun k => impl_RecordsOf.f k l) (r, b) ∧ r.length ≤ 1048576 := by
 have h1 := specRO_ev l hl hs
 have h2 := implRO_ev l hl hs
 rw [tests_one] at h2
 have hfl := flat_len l
 generalize (sv none l && fin l (l.flatMap recsOf)) = b at h1 h2
 cases b with
 | false => exact ⟨[], false, h1, h2, by simp⟩
 | true => exact ⟨l.flatMap recsOf, true, h1, h2, by omega⟩
theorem cnt_conv (l : List LSetP) : cntS (l.map convS) = cnt l := by
 unfold cntS cnt
 rw [List.map_map]
 rfl
theorem cnt_at : ∀ (l : List LSetP), ∀ y ∈ l, y.f3.length ≤ cnt l
 | [], y, h => by cases h
 | x :: l, y, h => by
  rw [cnt_cons]
  rcases List.mem_cons.1 h with rfl | h
  · omega
  · have := cnt_at l y h; omega
theorem FnExactRecordsOf : ∀ l : List LSetP, l.length ≤ maxLen → (∀ y ∈ l, y.f0.size ≤ maxLen ∧ y.f3.length ≤ maxLen ∧ ∀ z ∈ y.f3, z.size ≤ maxLen) → ∃ k, laws_FnExactRecordsOf.f k l := by
 intro l hm hs
 obtain ⟨t, ⟨k0, e0⟩, ht⟩ := szSS_ev l hm hs
 by_cases hn : t < 0
 · exact ⟨k0, t, e0 k0 (Nat.le_refl _), Or.inl hn⟩
 · obtain ⟨hc, hsm⟩ := ht (by omega)
   have hy : ∀ y ∈ l, y.f3.length ≤ 1048576 := fun y h => by have := cnt_at l y h; omega
   have hl' : (l.map convS).length + cntS (l.map convS) ≤ 1048576 := by rw [cnt_conv, List.length_map]; exact hc
   have hy' : ∀ y ∈ l.map convS, y.f3.length ≤ 1048576 := fun y h => by
    obtain ⟨z, hz, rfl⟩ := List.mem_map.1 h
    exact hy z hz
   have hs' : ∀ s ∈ l.map convS, SmS s := fun y h => by
    obtain ⟨z, hz, rfl⟩ := List.mem_map.1 h
    exact hsm z hz
   obtain ⟨k1, e1⟩ := toSS_ev l (by omega) hy
   obtain ⟨r, b, ⟨k2, e2⟩, ⟨k3, e3⟩, hr⟩ := recsOf_both (l.map convS) hl' hs'
   obtain ⟨k4, e4⟩ := eqRS_ev r hr
   obtain ⟨k5, e5⟩ := eqSS_ev (l.map convS) (by rw [List.length_map]; omega) hy'
   obtain ⟨q, x2, ⟨k6, e6⟩, hq⟩ := markSS_ev (l.map convS) hl' hy'
   obtain ⟨k7, e7⟩ := markR_ev 1 (by omega) r hr
   obtain ⟨k8, e8⟩ := heldR_ev 1 r.length (by omega) hr
   refine ⟨k0 + k1 + k2 + k3 + k4 + k5 + k6 + k7 + k8, t, e0 _ (by omega), Or.inr ⟨by omega, l.map convS, r, b, q, x2, _, _, e1 _ (by omega), e2 _ (by omega), e3 _ (by omega), e4 _ (by omega), e5 _ (by omega), e6 _ (by omega), hq, e7 _ (by omega), by omega, e8 _ (by omega)⟩⟩
end Go.Proofs.YtiegkjimpclmaaaGreatDoor.Pure
namespace Go.Proofs.YtiegkjimpclmaaaGreatDoor.fnExactRecordsOf
open Go.ChangeShapes Go.WideShapes Go.ChangeAt Go.RowKit Go.Joins Go.Proofs.YtiegkjimpclmaaaGreatDoor.P Go.Proofs.YtiegkjimpclmaaaGreatDoorW.PrintWords
open Go.ChangeMaps (open_string shut_string)
set_option linter.unusedVariables false
theorem own : ownKnob Tryz.prog.godebug = none := by kernel_rfl
theorem laidOut : laidOutB Tryz.prog = true := by kernel_rfl
instance : Inhabited (P.S82) := ⟨P.z82⟩
theorem opens_texts : Opens Tryz.prog 78 (Kd.slice 9 Kd.string) (fun l => l.length ≤ maxLen ∧ ∀ y ∈ l, y.size ≤ maxLen) :=
  haveI : Inhabited ByteArray := ⟨ByteArray.empty⟩
  opens_slice Tryz.underlying78 (by kernel_rfl) (opens_text Tryz.underlying9)
theorem opens_set : Opens Tryz.prog 82 P.k82 (fun x => x.f0.size ≤ maxLen ∧ x.f3.length ≤ maxLen ∧ ∀ z ∈ x.f3, z.size ≤ maxLen) :=
  Opens.imp (opens_iso (f := fun x : P.S82 => (x.f0, x.f1, x.f2, x.f3)) (fun x => (⟨x.1, x.2.1, x.2.2.1, x.2.2.2⟩ : P.S82)) (fun _ => rfl) (opens_struct4 Tryz.underlying82 (by kernel_rfl) (by kernel_rfl) (opens_text Tryz.underlying9) (opens_int Tryz.underlying3) (opens_int Tryz.underlying3) opens_texts)) fun x h => ⟨h.1, h.2.2.2⟩
theorem opens_sets : Opens Tryz.prog 25 (Kd.slice 82 P.k82) (fun l => l.length ≤ maxLen ∧ ∀ y ∈ l, y.f0.size ≤ maxLen ∧ y.f3.length ≤ maxLen ∧ ∀ z ∈ y.f3, z.size ≤ maxLen) :=
  opens_slice Tryz.underlying25 (by kernel_rfl) opens_set
noncomputable def low : Nat := (World.holding Tryz.prog default ⟨#[], #[], []⟩).heap.size
noncomputable def laidWorld (os : Os) : World :=
  { World.holding Tryz.prog os ⟨#[.cells #[.string { data := #[118, 97, 108, 117, 101, 32, 111, 117, 116, 32, 111, 102, 32, 114, 97, 110, 103, 101] }] 233, .cells #[.string { data := #[105, 110, 118, 97, 108, 105, 100, 32, 115, 121, 110, 116, 97, 120] }] 233], #[], []⟩ with heap := ((((((((World.holding Tryz.prog os ⟨#[.cells #[.string { data := #[118, 97, 108, 117, 101, 32, 111, 117, 116, 32, 111, 102, 32, 114, 97, 110, 103, 101] }] 233, .cells #[.string { data := #[105, 110, 118, 97, 108, 105, 100, 32, 115, 121, 110, 116, 97, 120] }] 233], #[], []⟩).heap.modify 6 fun
      | .cells _ t frozen => .cells #[.int .u8 0, .int .u8 1, .int .u8 28, .int .u8 2, .int .u8 29, .int .u8 14, .int .u8 24, .int .u8 3, .int .u8 30, .int .u8 22, .int .u8 20, .int .u8 15, .int .u8 25, .int .u8 17, .int .u8 4, .int .u8 8, .int .u8 31, .int .u8 27, .int .u8 13, .int .u8 23, .int .u8 21, .int .u8 19, .int .u8 16, .int .u8 7, .int .u8 26, .int .u8 12, .int .u8 18, .int .u8 6, .int .u8 11, .int .u8 5, .int .u8 10, .int .u8 9] t frozen
      | o => o).modify 7 fun
      | .cells _ t frozen => .cells #[.int .u8 0, .int .u8 1, .int .u8 56, .int .u8 2, .int .u8 57, .int .u8 49, .int .u8 28, .int .u8 3, .int .u8 61, .int .u8 58, .int .u8 42, .int .u8 50, .int .u8 38, .int .u8 29, .int .u8 17, .int .u8 4, .int .u8 62, .int .u8 47, .int .u8 59, .int .u8 36, .int .u8 45, .int .u8 43, .int .u8 51, .int .u8 22, .int .u8 53, .int .u8 39, .int .u8 33, .int .u8 30, .int .u8 24, .int .u8 18, .int .u8 12, .int .u8 5, .int .u8 63, .int .u8 55, .int .u8 48, .int .u8 27, .int .u8 60, .int .u8 41, .int .u8 37, .int .u8 16, .int .u8 46, .int .u8 35, .int .u8 44, .int .u8 21, .int .u8 52, .int .u8 32, .int .u8 23, .int .u8 11, .int .u8 54, .int .u8 26, .int .u8 40, .int .u8 15, .int .u8 34, .int .u8 20, .int .u8 31, .int .u8 10, .int .u8 25, .int .u8 14, .int .u8 19, .int .u8 9, .int .u8 13, .int .u8 8, .int .u8 7, .int .u8 6] t frozen
      | o => o).modify 3 fun
      | .cells _ t frozen => .cells #[.int .u64 1, .int .u64 10, .int .u64 100, .int .u64 1000, .int .u64 10000, .int .u64 100000, .int .u64 1000000, .int .u64 10000000, .int .u64 100000000, .int .u64 1000000000, .int .u64 10000000000, .int .u64 100000000000, .int .u64 1000000000000, .int .u64 10000000000000, .int .u64 100000000000000, .int .u64 1000000000000000, .int .u64 10000000000000000, .int .u64 100000000000000000, .int .u64 1000000000000000000, .int .u64 10000000000000000000] t frozen
      | o => o).modify 5 fun
      | .cells _ t frozen => .cells #[.int .u8 128, .int .u8 191, .int .u8 160, .int .u8 191, .int .u8 128, .int .u8 159, .int .u8 144, .int .u8 191, .int .u8 128, .int .u8 143, .int .u8 0, .int .u8 0, .int .u8 0, .int .u8 0, .int .u8 0, .int .u8 0, .int .u8 0, .int .u8 0, .int .u8 0, .int .u8 0, .int .u8 0, .int .u8 0, .int .u8 0, .int .u8 0, .int .u8 0, .int .u8 0, .int .u8 0, .int .u8 0, .int .u8 0, .int .u8 0, .int .u8 0, .int .u8 0] t frozen
      | o => o).modify 2 fun
      | .cells _ t frozen => .cells #[.iface 231 (.pointer (some ⟨low, 0, none⟩))] t frozen
      | o => o).modify 1 fun
      | .cells _ t frozen => .cells #[.iface 231 (.pointer (some ⟨low + 1, 0, none⟩))] t frozen
      | o => o).modify 4 fun
      | .cells _ t frozen => .cells #[.int .u8 240, .int .u8 240, .int .u8 240, .int .u8 240, .int .u8 240, .int .u8 240, .int .u8 240, .int .u8 240, .int .u8 240, .int .u8 240, .int .u8 240, .int .u8 240, .int .u8 240, .int .u8 240, .int .u8 240, .int .u8 240, .int .u8 240, .int .u8 240, .int .u8 240, .int .u8 240, .int .u8 240, .int .u8 240, .int .u8 240, .int .u8 240, .int .u8 240, .int .u8 240, .int .u8 240, .int .u8 240, .int .u8 240, .int .u8 240, .int .u8 240, .int .u8 240, .int .u8 240, .int .u8 240, .int .u8 240, .int .u8 240, .int .u8 240, .int .u8 240, .int .u8 240, .int .u8 240, .int .u8 240, .int .u8 240, .int .u8 240, .int .u8 240, .int .u8 240, .int .u8 240, .int .u8 240, .int .u8 240, .int .u8 240, .int .u8 240, .int .u8 240, .int .u8 240, .int .u8 240, .int .u8 240, .int .u8 240, .int .u8 240, .int .u8 240, .int .u8 240, .int .u8 240, .int .u8 240, .int .u8 240, .int .u8 240, .int .u8 240, .int .u8 240, .int .u8 240, .int .u8 240, .int .u8 240, .int .u8 240, .int .u8 240, .int .u8 240, .int .u8 240, .int .u8 240, .int .u8 240, .int .u8 240, .int .u8 240, .int .u8 240, .int .u8 240, .int .u8 240, .int .u8 240, .int .u8 240, .int .u8 240, .int .u8 240, .int .u8 240, .int .u8 240, .int .u8 240, .int .u8 240, .int .u8 240, .int .u8 240, .int .u8 240, .int .u8 240, .int .u8 240, .int .u8 240, .int .u8 240, .int .u8 240, .int .u8 240, .int .u8 240, .int .u8 240, .int .u8 240, .int .u8 240, .int .u8 240, .int .u8 240, .int .u8 240, .int .u8 240, .int .u8 240, .int .u8 240, .int .u8 240, .int .u8 240, .int .u8 240, .int .u8 240, .int .u8 240, .int .u8 240, .int .u8 240, .int .u8 240, .int .u8 240, .int .u8 240, .int .u8 240, .int .u8 240, .int .u8 240, .int .u8 240, .int .u8 240, .int .u8 240, .int .u8 240, .int .u8 240, .int .u8 240, .int .u8 240, .int .u8 240, .int .u8 240, .int .u8 240, .int .u8 241, .int .u8 241, .int .u8 241, .int .u8 241, .int .u8 241, .int .u8 241, .int .u8 241, .int .u8 241, .int .u8 241, .int .u8 241, .int .u8 241, .int .u8 241, .int .u8 241, .int .u8 241, .int .u8 241, .int .u8 241, .int .u8 241, .int .u8 241, .int .u8 241, .int .u8 241, .int .u8 241, .int .u8 241, .int .u8 241, .int .u8 241, .int .u8 241, .int .u8 241, .int .u8 241, .int .u8 241, .int .u8 241, .int .u8 241, .int .u8 241, .int .u8 241, .int .u8 241, .int .u8 241, .int .u8 241, .int .u8 241, .int .u8 241, .int .u8 241, .int .u8 241, .int .u8 241, .int .u8 241, .int .u8 241, .int .u8 241, .int .u8 241, .int .u8 241, .int .u8 241, .int .u8 241, .int .u8 241, .int .u8 241, .int .u8 241, .int .u8 241, .int .u8 241, .int .u8 241, .int .u8 241, .int .u8 241, .int .u8 241, .int .u8 241, .int .u8 241, .int .u8 241, .int .u8 241, .int .u8 241, .int .u8 241, .int .u8 241, .int .u8 241, .int .u8 241, .int .u8 241, .int .u8 2, .int .u8 2, .int .u8 2, .int .u8 2, .int .u8 2, .int .u8 2, .int .u8 2, .int .u8 2, .int .u8 2, .int .u8 2, .int .u8 2, .int .u8 2, .int .u8 2, .int .u8 2, .int .u8 2, .int .u8 2, .int .u8 2, .int .u8 2, .int .u8 2, .int .u8 2, .int .u8 2, .int .u8 2, .int .u8 2, .int .u8 2, .int .u8 2, .int .u8 2, .int .u8 2, .int .u8 2, .int .u8 2, .int .u8 2, .int .u8 19, .int .u8 3, .int .u8 3, .int .u8 3, .int .u8 3, .int .u8 3, .int .u8 3, .int .u8 3, .int .u8 3, .int .u8 3, .int .u8 3, .int .u8 3, .int .u8 3, .int .u8 35, .int .u8 3, .int .u8 3, .int .u8 52, .int .u8 4, .int .u8 4, .int .u8 4, .int .u8 68, .int .u8 241, .int .u8 241, .int .u8 241, .int .u8 241, .int .u8 241, .int .u8 241, .int .u8 241, .int .u8 241, .int .u8 241, .int .u8 241, .int .u8 241] t frozen
      | o => o) }
set_option maxRecDepth 100000 in
theorem laid_met (os : Os) : laidMet Tryz.prog Rows.fnExactRecordsOfRow.laid ((laidWorld os).forCall (fun _ _ => 0) ⟨#[], #[.slice none 0 0], []⟩).memory :=
  laidMet_of_run' 8 (by kernel_rfl) (by kernel_rfl)
theorem ptr_row (u : TypeId) (h : Tryz.prog.typeName? 3 u = some "*errors.errorString") : u = 231 :=
  typeName_ptr_named (nm := "errors.errorString") (by rw [show "*" ++ "errors.errorString" = "*errors.errorString" by decide]; kernel_rfl) (by kernel_rfl) (by decide) u (by rw [show "*" ++ "errors.errorString" = "*errors.errorString" by decide]; exact h)
theorem vars_of {W : World} (hL : laidMet Tryz.prog Rows.fnExactRecordsOfRow.laid W) : P.Vars W := by
  obtain ⟨_, _, hs, -, -, -⟩ := laid_sentinel (n := "strconv.ErrSyntax") (g := 1) hL.tail.tail.tail.tail.tail (by kernel_rfl) (by kernel_rfl) Tryz.underlying104 ptr_row Tryz.underlying231 Tryz.underlying233 rfl rfl Tryz.underlying9 (by kernel_rfl) (by kernel_rfl)
  obtain ⟨_, _, hr, -, -, -⟩ := laid_sentinel (n := "strconv.ErrRange") (g := 2) hL.tail.tail.tail.tail (by kernel_rfl) (by kernel_rfl) Tryz.underlying104 ptr_row Tryz.underlying231 Tryz.underlying233 rfl rfl Tryz.underlying9 (by kernel_rfl) (by kernel_rfl)
  have hp : laidMet Tryz.prog (("internal/strconv.uint64pow10", Lib.tabData .u64 Lib.pow10Tab) :: _) W := hL.tail.tail
  have ht := Lib.tabIs_of_head (g := 3) (by kernel_rfl) (by kernel_rfl) Tryz.underlying221 Tryz.underlying115 (by kernel_rfl) (by kernel_rfl) hp
  exact ⟨⟨_, _, hs⟩, ⟨_, _, hr⟩, ht⟩
set_option maxRecDepth 100000 in
theorem contract (H : Type) (enc : TypeId × Value → H) (W : World) (base : Nat) (args : Array Value) (ds gs : List (DataW H)) (before : List MemPlace)
    (hval0 : ∀ (j : Nat) t v, Tryz.f4.params[j]? = some t → args[j]? = some v → Value.okWide Tryz.prog W .any base t v)
    (hW : DataW.Whole enc Tryz.prog Tryz.f4.params.toList Rows.fnExactRecordsOfSpec.vars false W args.toList ds gs before)
    (hsz0 : (DataW.weightsEach Tryz.prog (Tryz.f4.params.toList ++ Rows.fnExactRecordsOfSpec.plain.varTypes Tryz.prog) (ds ++ gs)).all (· ≤ reachBytes) = true) (hL : laidMet Tryz.prog Rows.fnExactRecordsOfRow.laid W) :
    Calls Tryz.prog 4 args W fun e W' => ∃ v, e = .returned v ∧ Rows.fnExactRecordsOfSpec.post enc Tryz.prog Tryz.f4 false true false false W args v W' := by
  have hsz : (DataW.weightsEach Tryz.prog (Tryz.f4.params.toList ++ Rows.fnExactRecordsOfSpec.plain.varTypes Tryz.prog) (ds ++ gs)).all (· ≤ reachBytes) = true := hsz0
  have hval : ∀ (j : Nat) t v, Tryz.f4.params[j]? = some t → args[j]? = some v → Value.okWide Tryz.prog W .any base t v := hval0
  have hW' := hW
  obtain ⟨p, q, hA0, hV, rfl, hfz, hnd⟩ := hW
  have hA : DataW.TrodAll enc Tryz.prog W 0 (fun _ => true) true Tryz.f4.params.toList args.toList ds p := hA0
  rw [Tryz.params4] at hA hval hsz
  obtain ⟨v0, vs0, d0, ds0, p0, q0, hargs, rfl, rfl, h0, r0⟩ := trodAll_cons hA
  obtain ⟨rfl, rfl, rfl⟩ := trodAll_nil r0
  obtain rfl : args = #[v0] := by cases args; simp_all
  obtain ⟨rfl, rfl⟩ := trodVars_none hV
  have k0 := h0
  have lt0 : ∀ x ∈ p0, x.block < W.heap.size := by obtain ⟨m, hm⟩ := k0; exact DataW.trod_lt m _ _ _ hm
  obtain ⟨s0, n0, b0, rfl⟩ := okWide_slice Tryz.underlying25 (hval 0 25 v0 rfl rfl)
  obtain ⟨u0, h0⟩ := h0
  have h0 : DataW.trod enc Tryz.prog W 0 (fun _ => true) true u0 25 [.slice s0 n0 b0] = some (d0, p0) := h0
  obtain ⟨g0, ⟨Ag0, cg0, eg0, lg0, rg0⟩, mg0, wg0⟩ := opens_sets H enc W 0 _ true _ _ _ h0
  obtain ⟨rfl, rfl, rfl⟩ : s0 = Ag0 ∧ n0 = g0.length ∧ b0 = cg0 := by simpa using eg0
  clear hA0 hval0 hsz0 hsz
  obtain ⟨k, hk⟩ := Pure.FnExactRecordsOf g0 mg0 wg0
  refine (P.laws_FnExactRecordsOf.calls k s0 b0 g0 true W rg0 lg0 hk (vars_of hL)).mono fun e W' ⟨he, bel⟩ => ?_
  subst he
  exact ⟨_, rfl, _, _, _, [], _, [], hW', trodAll_mk1 (shut_bool Tryz.underlying4 _), (trodAll_cons_mk (Below.trod laidOut (by kernel_rfl) (of_decide_eq_true (by kernel_rfl)) k0 bel lt0) trodAll_mk0), rfl, bel.frame _, fun h => by cases h⟩
set_option maxRecDepth 100000 in
theorem reads (os : Os) {H : Type} (enc : TypeId × Value → H) : ∃ places, DataW.whole enc Tryz.prog ((laidWorld os).forCall (fun _ _ => 0) ⟨#[], #[.slice none 0 0], []⟩).memory Tryz.f4.params.toList Rows.fnExactRecordsOfSpec.vars false (#[.slice none 0 0] : Array Value).toList 8 = some ([.nil], [], places) :=
  ⟨[], by kernel_rfl⟩
set_option maxRecDepth 100000 in
theorem lifted (os : Os) (started : os.Started) (H : Type) (enc : TypeId × Value → H) (F : Stop.Interp) :
    ReturnsInHanded {} Tryz.checked os 4 .any ((OpenSpec.ofChange Rows.fnExactRecordsOfSpec).preRow enc Tryz.prog Tryz.f4 Rows.fnExactRecordsOfRow.domain false Rows.fnExactRecordsOfRow.laid) (((OpenSpec.ofChange Rows.fnExactRecordsOfSpec).at F).post enc Tryz.prog Tryz.f4 false true false false) := by
  obtain ⟨places, hx⟩ := reads os enc
  refine returnsInHanded_of_row (C := Tryz.checked) (s := OpenSpec.ofChange Rows.fnExactRecordsOfSpec) own started (by kernel_rfl) Tryz.func4
    (witness_row_at (enc := enc) (C := Tryz.checked) false (laidWorld os) #[.slice none 0 0] rfl (by kernel_rfl) (by kernel_rfl) (by kernel_rfl)
      (OpenSpec.preRow_of_cond 8 hx (by kernel_rfl) (fun k hk => by cases hk) (by kernel_rfl) (laid_met os))) ?_
  intro W base args ds gs before hval hW _ _ hsz hL _ _
  exact contract H enc W base args ds gs before hval hW hsz hL
theorem said : Rows.FnExactRecordsOfSaid :=
  OpenClaim.holds_of_cond 4 Tryz.f4 rfl rfl rfl rfl rfl rfl rfl ⟨rfl, rfl, rfl, rfl, rfl⟩ rfl rfl rfl rfl rfl (by kernel_rfl) Tryz.func4 (by kernel_rfl)
    (of_decide_eq_true (by kernel_rfl)) (by unfold Func.isWrapper; first | (rw [if_pos (by decide +kernel)]; kernel_rfl) | (rw [if_neg (by decide +kernel)]; exact ⟨rfl, rfl⟩))
    (fun os started H enc _ F => by rw [OpenClaim.pre_eq_preRow]; exact lifted os started H enc F)
theorem wants : Tryz.f4.params.toList.all (fun t => Tryz.prog.wantsStandIn t == false) = true := by kernel_rfl
theorem plain (f : FuncId) (fn : Func) (hf : Tryz.pinned.checked.prog.funcNamed "loop.example/g00300/laws.FnExactRecordsOf" = some f) (hfn : Tryz.pinned.checked.prog.funcs[f]? = some fn) :
    true = Tryz.pinned.checked.prog.looks [] ∧ ∀ (j : Nat) t, fn.params[j]? = some t → Tryz.pinned.checked.prog.wantsStandIn t = false := by
  obtain rfl : f = 4 := Option.some.inj ((show Tryz.prog.funcNamed "loop.example/g00300/laws.FnExactRecordsOf" = some 4 by kernel_rfl).symm.trans hf) |>.symm
  obtain rfl : fn = Tryz.f4 := (Option.some.inj (Tryz.func4.symm.trans hfn)).symm
  refine ⟨by kernel_rfl, fun j t ht => ?_⟩
  exact eq_of_beq (List.all_eq_true.1 wants t (Array.mem_toList_iff.2 (Array.mem_of_getElem? ht)))
theorem proved : Rows.FnExactRecordsOfCardSaid :=
  Claim7.holds_tied_plain_at .later [] _ _ _ _ said (fun _ h => by cases h) (by kernel_rfl) (fun _ h => by cases h) fnExactRecordsOf_row_tie rfl ⟨rfl, rfl⟩ (by kernel_rfl) rfl plain (by kernel_rfl)
#print axioms proved
end Go.Proofs.YtiegkjimpclmaaaGreatDoor.fnExactRecordsOf
namespace Go.Proofs.YtiegkjimpclmaaaGreatDoor
theorem fnExactRecordsOf_holds : Rows.FnExactRecordsOfCardSaid := fnExactRecordsOf.proved
end Go.Proofs.YtiegkjimpclmaaaGreatDoor
