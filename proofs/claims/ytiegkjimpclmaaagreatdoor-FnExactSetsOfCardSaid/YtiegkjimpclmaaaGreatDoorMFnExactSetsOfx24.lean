/- FnExactSetsOf: part 25 of 28 of my texts for this claim, joined; the theorem stands in the last. Conditions: none beyond the statement's. -/
import Derived.Test.YtiegkjimpclmaaaGreatDoorMFnExactSetsOfx23
namespace Go.Proofs.YtiegkjimpclmaaaGreatDoor.Pure
open Go.RowKit Go.Proofs.YtiegkjimpclmaaaGreatDoor.P Go.Proofs.YtiegkjimpclmaaaGreatDoorW.PrintWords Go.Proofs.YtiegkjimpclmaaaGreatDoorW.PrintLast
set_option linter.unusedVariables false
set_option linter.unusedSimpArgs false
theorem can_len10 {l : List UInt8} (h : canL l = true) : l.length ≤ 10 := by
 unfold canL at h
 simp only [Bool.and_eq_true, decide_eq_true_eq] at h
 exact h.1.1.2
theorem end_zero (l : List UInt8) : mkB l ++ (⟨#[0]⟩ : ByteArray) = mkB (l ++ [0]) := by
 apply ext_data
 simp [mkB_data]
theorem lb_is {k : Nat} {s lb : ByteArray} (ht : impl_isTarget.f s = some true) (h : impl_labelBytes.f k s = some lb) : lb = mkB (encL ((labelsL s.data.toList).map mkB)) ∧ goodL s.data.toList = true := by
 have hT : targL s.data.toList = true := Option.some.inj ((target_impl s).symm.trans ht)
 have hg := targ_good hT
 have e : Ev (fun k => impl_labelBytes.f k s) lb := Ev.of (fun k => impl_labelBytes.mono _ _) h
 exact ⟨Ev.unique e (lb_enc s hg), hg⟩
theorem back_name {kind : Int} {d b : ByteArray} (hk2 : kind = 2 ∨ kind = 5) (hd : d.size ≤ 1048576) (h : Ev (fun k => impl_DataBytes.f k kind d) (b, true)) : Ev (fun k => impl_ReadData.f k kind b) (d, true) := by
 obtain ⟨k, hk⟩ := Ev.rounds h
 have hsz := (data_size hd hk rfl).1
 have k1 : ¬ kind = 1 := by omega
 unfold impl_DataBytes.f at hk
 rw [if_neg k1, if_pos hk2] at hk
 unfold dataNs at hk
 obtain ⟨t, ht, hk⟩ := Option.bind_eq_some_iff.mp hk
 cases t with
 | false =>
  rw [if_neg (by decide)] at hk
  cases (Prod.mk.inj (Option.some.inj hk)).2
 | true =>
  rw [if_pos rfl] at hk
  obtain ⟨lb, hlb, hk⟩ := Option.bind_eq_some_iff.mp hk
  have hz := lab_size ht hlb
  obtain ⟨e1, e2⟩ := lb_is ht hlb
  rw [if_pos (by omega), e1, end_zero] at hk
  obtain rfl := (Prod.mk.inj (Option.some.inj hk)).1
  refine back_of hsz h (Ev.congr (fun k => ?_) (name_reads d e2))
  unfold preI
  rw [if_neg (fun e => k1 e.1), if_pos hk2]
theorem preI_15 (k : Nat) (b : ByteArray) (h : 2 < b.size) : preI k 15 b = (impl_number.f k (b.extract 0 2)).bind fun n => (strconv_Itoa.f n).bind fun t => (impl_nameIn.f k (b.extract 2 b.size)).bind fun s => (if t.size + s.size ≤ 1000000 then some ((t ++ (⟨#[32]⟩ : ByteArray)) ++ s) else none) := by
 unfold preI
 rw [if_neg (by omega), if_neg (by omega), if_neg (by omega), if_pos ⟨rfl, h⟩]
theorem back_mail {d b : ByteArray} (hd : d.size ≤ 1048576) (h : Ev (fun k => impl_DataBytes.f k 15 d) (b, true)) : Ev (fun k => impl_ReadData.f k 15 b) (d, true) := by
 obtain ⟨k, hk⟩ := Ev.rounds h
 have hsz := (data_size hd hk rfl).1
 unfold impl_DataBytes.f at hk
 rw [if_neg (by decide), if_neg (by decide), if_neg (by decide), if_pos rfl] at hk
 unfold dataMx at hk
 rcases place_or 32 d.data.toList with ⟨h1, h2⟩ | ⟨p, r, h1, h2, h3⟩
 · have hcut : strings_Cut.f d (⟨#[32]⟩ : ByteArray) = some (d, (⟨#[]⟩ : ByteArray), false) := by
    unfold strings_Cut.f stringslite_Cut.f internal_stringslite_Index.f
    rw [if_pos (show (⟨#[32]⟩ : ByteArray).size = 1 from rfl)]
    simp only [Option.bind_some]
    rw [show List.headD (⟨#[32]⟩ : ByteArray).data.toList 0 = 32 from rfl, h1, if_neg (by omega)]
    rfl
   rw [hcut, Option.bind_some] at hk
   obtain ⟨bb, hbb, hk⟩ := Option.bind_eq_some_iff.mp hk
   by_cases c : bb.2 = true
   · rw [if_pos c, target_impl, Option.bind_some, if_neg (show ¬ targL (⟨#[]⟩ : ByteArray).data.toList = true by decide)] at hk
     cases (Prod.mk.inj (Option.some.inj hk)).2
   · rw [if_neg c] at hk
     cases (Prod.mk.inj (Option.some.inj hk)).2
 · have hpz : p.length + r.length + 1 = d.size := by rw [size_len, h1]; simp; omega
   rw [cut_at d hd p r h1 h2, Option.bind_some] at hk
   obtain ⟨v, hv1, hv2⟩ := number_eq (mkB p) 65535 (by rw [mkB_size]; omega) (by omega) (by omega)
   rw [mkB_data] at hv1 hv2
   rw [hv1, Option.bind_some] at hk
   by_cases hc : (canL p && decide ((valL p : Int) ≤ 65535)) = true
   · have hv := hv2 hc
     rw [if_pos hc] at hk
     obtain ⟨t, ht, hk⟩ := Option.bind_eq_some_iff.mp hk
     cases t with
     | false =>
      rw [if_neg (by decide)] at hk
      cases (Prod.mk.inj (Option.some.inj hk)).2
     | true =>
      rw [if_pos rfl] at hk
      obtain ⟨g, hg, hk⟩ := Option.bind_eq_some_iff.mp hk
      obtain ⟨lb, hlb, hk⟩ := Option.bind_eq_some_iff.mp hk
      have hz := lab_size ht hlb
      have hgz := (big_size hg).2.1 rfl
      obtain ⟨e1, e2⟩ := lb_is ht hlb
      have eg0 : Ev (fun k => impl_big.f k v 2) g := Ev.of (fun k => impl_big.mono _ _ _) hg
      have eg := Ev.unique eg0 (big2 v)
      rw [if_pos (by omega), if_pos (by omega)] at hk
      obtain rfl := (Prod.mk.inj (Option.some.inj hk)).1
      rw [Bool.and_eq_true, decide_eq_true_eq] at hc
      have hbz : ((g ++ lb) ++ (⟨#[0]⟩ : ByteArray)).size = 2 + lb.size + 1 := by rw [ByteArray.size_append, ByteArray.size_append, hgz]; rfl
      have hgl : g.data.toList.length = 2 := by rw [← size_len]; exact hgz
      have hdt : ((g ++ lb) ++ (⟨#[0]⟩ : ByteArray)).data.toList = g.data.toList ++ (lb.data.toList ++ [0]) := by simp
      have x1 : ((g ++ lb) ++ (⟨#[0]⟩ : ByteArray)).extract 0 2 = g := by
       apply ext_data
       rw [ext_mkB, mkB_data, hdt, List.drop_zero, List.take_append_of_le_length (by omega), List.take_of_length_le (by omega)]
      have x2 : ((g ++ lb) ++ (⟨#[0]⟩ : ByteArray)).extract 2 ((g ++ lb) ++ (⟨#[0]⟩ : ByteArray)).size = mkB (encL ((labelsL (mkB r).data.toList).map mkB) ++ [0]) := by
       apply ext_data
       rw [ext_end, mkB_data, hdt, List.drop_append_of_le_length (by omega), List.drop_of_length_le (by omega), List.nil_append, e1]
       simp only [mkB_data]
      have hn := big2_val v (by omega) (by omega)
      rw [← eg] at hn
      have hvt : itB v = mkB p := by
       unfold itB
       rw [hv, Int.toNat_natCast, dig_back hc.1]
      refine back_of hsz h (Ev.congr (fun k => (preI_15 k _ (by omega)).trans (by rw [x1, x2])) (Ev.bind hn ?_))
      rw [itoa_it v (by omega) (by omega)]
      simp only [Option.bind_some]
      refine Ev.bind (name_reads (mkB r) e2) ?_
      rw [hvt]
      simp only [if_pos (show (mkB p).size + (mkB r).size ≤ 1000000 by have h1 := hz.2.1; replace h1 : (mkB r).size ≤ 60 := h1; have h2 : p.length ≤ 10 := can_len10 hc.1; rw [mkB_size]; omega)]
      have : (mkB p ++ (⟨#[32]⟩ : ByteArray)) ++ mkB r = d := by
       apply ext_data
       rw [h1]
       simp [mkB_data]
      rw [this]
      exact Ev.now _
   · rw [if_neg hc] at hk
     cases (Prod.mk.inj (Option.some.inj hk)).2
theorem data_back {kind : Int} {d b : ByteArray} (hd : d.size ≤ 1048576) (h : Ev (fun k => impl_DataBytes.f k kind d) (b, true)) : Ev (fun k => impl_ReadData.f k kind b) (d, true) := by
 by_cases k1 : kind = 1
 · subst k1; exact back_addr hd h
 by_cases k2 : kind = 2 ∨ kind = 5
 · exact back_name k2 hd h
 by_cases k6 : kind = 6
 · subst k6; exact back_serial hd h
 by_cases k15 : kind = 15
 · subst k15; exact back_mail hd h
 by_cases k16 : kind = 16
 · subst k16; exact back_text hd h
 obtain ⟨k, hk⟩ := Ev.rounds h
 unfold impl_DataBytes.f at hk
 rw [if_neg k1, if_neg k2, if_neg k6, if_neg k15, if_neg k16] at hk
 cases (Prod.mk.inj (Option.some.inj hk)).2
end Go.Proofs.YtiegkjimpclmaaaGreatDoor.Pure
namespace Go.Proofs.YtiegkjimpclmaaaGreatDoor.Pure
open Go.RowKit Go.Proofs.YtiegkjimpclmaaaGreatDoor.P Go.Proofs.YtiegkjimpclmaaaGreatDoorW.PrintWords Go.Proofs.YtiegkjimpclmaaaGreatDoorW.PrintLast Go.Proofs.YtiegkjimpclmaaaGreatDoorW.PrintMore
set_option linter.unusedVariables false
set_option linter.unusedSimpArgs false
noncomputable def markedS : Nat → List SSet → List SSet
 | _, [] => []
 | x, s :: l => ⟨markT (x : Int), ((x + 1 : Nat) : Int), ((x + 2 : Nat) : Int), marks (x + 3) s.f3.length⟩ :: markedS (x + 3 + s.f3.length) l
theorem rd_mid (d r : List SSet) (s : SSet) : rd_T83 (d ++ s :: r) (d.length : Int) = s := by
 rw [rdSS _ _ (by simp)]; simp
theorem markQ_loop : ∀ (rest done : List SSet) (x : Nat), x + 3 * rest.length + cntS rest < 1000000 → done.length + rest.length < 1000000 → (∀ y ∈ rest, y.f3.length < 1000000) →
 Ev (fun k => laws_markSetS.l0 k (done ++ rest) (x : Int) (done.length : Int)) (((x + 3 * rest.length + cntS rest : Nat) : Int), done ++ markedS x rest)
 | [], done, x, hx, hd, hy => by
  refine Ev.step (f := fun _ => some ((x : Int), done)) (fun k => ?_) ?_
  · show laws_markSetS.l0 (k + 1) (done ++ []) (x : Int) (done.length : Int) = _
    rw [List.append_nil, laws_markSetS.l0, if_neg (by omega)]
  · simp only [List.length_nil, cntS, List.map_nil, List.sum_nil, Nat.mul_zero, Nat.add_zero, markedS, List.append_nil]
    exact Ev.now _
 | s :: rest, done, x, hx, hd, hy => by
  rw [cntS_cons, List.length_cons] at hx
  rw [List.length_cons] at hd
  have hs := hy s (by simp)
  have h0 : wrap64 ((x : Int) + 1) = ((x + 1 : Nat) : Int) := w64n (by omega)
  have h1 : wrap64 (((x + 1 : Nat) : Int) + 1) = ((x + 2 : Nat) : Int) := w64n (by omega)
  have h2 : wrap64 (((x + 2 : Nat) : Int) + 1) = ((x + 3 : Nat) : Int) := w64n (by omega)
  have h3 : wrap64 ((done.length : Int) + 1) = ((done.length + 1 : Nat) : Int) := w64n (by omega)
  have ih := markQ_loop rest (done ++ [⟨markT (x : Int), ((x + 1 : Nat) : Int), ((x + 2 : Nat) : Int), marks (x + 3) s.f3.length⟩]) (x + 3 + s.f3.length) (by omega) (by rw [List.length_append, List.length_singleton]; omega) (fun y h => hy y (by simp [h]))
  rw [List.length_append, List.length_singleton, List.append_assoc, List.append_assoc, List.singleton_append, List.singleton_append] at ih
  have e : x + 3 + s.f3.length + 3 * rest.length + cntS rest = x + 3 * (s :: rest).length + cntS (s :: rest) := by rw [cntS_cons, List.length_cons]; omega
  rw [e] at ih
  refine Ev.step (f := fun k => (laws_markText.f k (x : Int)).bind fun t => ((laws_markStringS.f k s.f3 ((x + 3 : Nat) : Int)).bind fun q => laws_markSetS.l0 k (done ++ (⟨t, ((x + 1 : Nat) : Int), ((x + 2 : Nat) : Int), q.2⟩ : SSet) :: rest) q.1 ((done.length + 1 : Nat) : Int))) (fun k => ?_) (Ev.bind (markT_ev (x : Int) (by omega)) (Ev.bind (markS_ev (x + 3) (by omega) s.f3 (by omega)) ih))
  show laws_markSetS.l0 (k + 1) (done ++ s :: rest) (x : Int) (done.length : Int) = _
  rw [laws_markSetS.l0, if_pos (by simp; omega)]
  have hset : ∀ t : SSet, (done ++ s :: rest).set done.length t = done ++ t :: rest := fun t => by simp
  simp only [if_pos (show (0 : Int) ≤ (done.length : Int) by omega), h0, h1, h2, h3, Int.toNat_natCast, rd_mid, hset]
theorem heldQ_loop : ∀ (rest done : List SSet) (x : Nat), x + 3 * rest.length + cntS rest < 1000000 → done.length + rest.length < 1000000 → (∀ y ∈ rest, y.f3.length < 1000000) →
 Ev (fun k => laws_heldSetS.l0 k (done ++ markedS x rest) (x : Int) (done.length : Int)) ((x + 3 * rest.length + cntS rest : Nat) : Int)
 | [], done, x, hx, hd, hy => by
  refine Ev.step (f := fun _ => some (x : Int)) (fun k => ?_) ?_
  · show laws_heldSetS.l0 (k + 1) (done ++ []) (x : Int) (done.length : Int) = _
    rw [List.append_nil, laws_heldSetS.l0, if_neg (by omega)]
  · simp only [List.length_nil, cntS, List.map_nil, List.sum_nil, Nat.mul_zero, Nat.add_zero]
    exact Ev.now _
 | s :: rest, done, x, hx, hd, hy => by
  rw [cntS_cons, List.length_cons] at hx
  rw [List.length_cons] at hd
  have hs := hy s (by simp)
  have h0 : wrap64 ((x : Int) + 1) = ((x + 1 : Nat) : Int) := w64n (by omega)
  have h1 : wrap64 (((x + 1 : Nat) : Int) + 1) = ((x + 2 : Nat) : Int) := w64n (by omega)
  have h2 : wrap64 (((x + 2 : Nat) : Int) + 1) = ((x + 3 : Nat) : Int) := w64n (by omega)
  have h3 : wrap64 ((done.length : Int) + 1) = ((done.length + 1 : Nat) : Int) := w64n (by omega)
  have ih := heldQ_loop rest (done ++ [⟨markT (x : Int), ((x + 1 : Nat) : Int), ((x + 2 : Nat) : Int), marks (x + 3) s.f3.length⟩]) (x + 3 + s.f3.length) (by omega) (by rw [List.length_append, List.length_singleton]; omega) (fun y h => hy y (by simp [h]))
  rw [List.length_append, List.length_singleton, List.append_assoc, List.singleton_append] at ih
  have e : x + 3 + s.f3.length + 3 * rest.length + cntS rest = x + 3 * (s :: rest).length + cntS (s :: rest) := by rw [cntS_cons, List.length_cons]; omega
  rw [e] at ih
  have hh : Ev (fun k => laws_heldStringS.f k (marks (x + 3) s.f3.length) ((x + 3 : Nat) : Int)) ((x + 3 + s.f3.length : Nat) : Int) := heldS_ev (x + 3) s.f3.length (by omega) (by omega)
  refine Ev.step (f := fun k => (laws_markText.f k (x : Int)).bind fun t => (if (markT (x : Int)).toList = t.toList then ((laws_heldStringS.f k (marks (x + 3) s.f3.length) ((x + 3 : Nat) : Int)).bind fun t571 => (if t571 < 0 then (some (-1)) else (laws_heldSetS.l0 k (done ++ (⟨markT (x : Int), ((x + 1 : Nat) : Int), ((x + 2 : Nat) : Int), marks (x + 3) s.f3.length⟩ : SSet) :: markedS (x + 3 + s.f3.length) rest) t571 ((done.length + 1 : Nat) : Int)))) else some (-1))) (fun k => ?_) (Ev.bind (markT_ev (x : Int) (by omega)) ?_)
  · show laws_heldSetS.l0 (k + 1) (done ++ (⟨markT (x : Int), ((x + 1 : Nat) : Int), ((x + 2 : Nat) : Int), marks (x + 3) s.f3.length⟩ : SSet) :: markedS (x + 3 + s.f3.length) rest) (x : Int) (done.length : Int) = _
    rw [laws_heldSetS.l0, if_pos (by simp; omega)]
    simp only [if_pos (show (0 : Int) ≤ (done.length : Int) by omega), h0, h1, h2, h3, rd_mid, if_true]
  · simp only [if_true]
    refine Ev.bind hh ?_
    simp only [if_neg (show ¬ (((x + 3 + s.f3.length : Nat) : Int) < 0) by omega)]
    exact ih
theorem markQ_ev (l : List SSet) (hl : 3 * l.length + cntS l < 900000) (hy : ∀ y ∈ l, y.f3.length < 1000000) : Ev (fun k => laws_markSetS.f k l 1) (((1 + 3 * l.length + cntS l : Nat) : Int), markedS 1 l) :=
 markQ_loop l [] 1 (by omega) (by simp; omega) hy
theorem heldQ_ev (l : List SSet) (hl : 3 * l.length + cntS l < 900000) (hy : ∀ y ∈ l, y.f3.length < 1000000) : Ev (fun k => laws_heldSetS.f k (markedS 1 l) 1) ((1 + 3 * l.length + cntS l : Nat) : Int) :=
 heldQ_loop l [] 1 (by omega) (by simp; omega) hy
theorem cmpI_trans {a b c : Int} (h : cmpI a b < 0) (h' : cmpI b c < 0) : cmpI a c < 0 := by
 have e : ∀ x y : Int, cmpI x y < 0 ↔ x < y := fun x y => by
  unfold cmpI
  by_cases h1 : x < y
  · rw [if_pos h1]; omega
  · rw [if_neg h1]; by_cases h2 : y < x
    · rw [if_pos h2]; omega
    · rw [if_neg h2]; omega
 rw [e] at *
 omega
theorem cmpB_trans : ∀ {x y z : List UInt8}, Lib.compareBytes x y < 0 → Lib.compareBytes y z < 0 → Lib.compareBytes x z < 0
 | [], y, [], h, h' => by
  cases y with
  | nil => exact h
  | cons a y => simp [Lib.compareBytes] at h'
 | [], y, _ :: _, h, h' => by simp [Lib.compareBytes]
 | a :: x, [], z, h, h' => by simp [Lib.compareBytes] at h
 | a :: x, b :: y, [], h, h' => by simp [Lib.compareBytes] at h'
 | a :: x, b :: y, c :: z, h, h' => by
  unfold Lib.compareBytes at *
  by_cases h1 : a < b
  · by_cases h2 : b < c
    · rw [if_pos (UInt8.lt_trans h1 h2)]; decide
    · rw [if_neg h2] at h'
      by_cases h3 : c < b
      · rw [if_pos h3] at h'; omega
      · have : b = c := by
         have h2 := UInt8.not_lt.1 h2; have h3 := UInt8.not_lt.1 h3
         exact UInt8.le_antisymm h3 h2
        subst this
        rw [if_pos h1]; decide
  · rw [if_neg h1] at h
    by_cases h2 : b < a
    · rw [if_pos h2] at h; omega
    · have : a = b := by
       have h1 := UInt8.not_lt.1 h1; have h2 := UInt8.not_lt.1 h2
       exact UInt8.le_antisymm h2 h1
      subst this
      rw [if_neg h2] at h
      by_cases h3 : a < c
      · rw [if_pos h3]; decide
      · rw [if_neg h3] at h' ⊢
        by_cases h4 : c < a
        · rw [if_pos h4] at h'; omega
        · rw [if_neg h4] at h' ⊢
          exact cmpB_trans h h'
theorem or2_trans {a1 a2 a3 b1 b2 b3 : Int} (ha : a1 < 0 → a2 < 0 → a3 < 0) (h1 : a1 = 0 → a3 = a2) (h2 : a2 = 0 → a3 = a1) (hb : b1 < 0 → b2 < 0 → b3 < 0) (h : or2 a1 b1 < 0) (h' : or2 a2 b2 < 0) : or2 a3 b3 < 0 := by
 unfold or2 at *
 by_cases c1 : a1 = 0
 · rw [if_pos c1] at h
   have e := h1 c1
   by_cases c2 : a2 = 0
   · rw [if_pos c2] at h'
     rw [if_pos (by omega)]
     exact hb h h'
   · rw [if_neg c2] at h'
     rw [if_neg (by omega)]
     omega
 · rw [if_neg c1] at h
   by_cases c2 : a2 = 0
   · have e := h2 c2
     rw [if_neg (by omega)]
     omega
   · rw [if_neg c2] at h'
     have := ha h h'
     rw [if_neg (by omega)]
     exact this
theorem ordR_trans {a b c : List UInt8} {t1 t2 t3 u1 u2 u3 : Int} {x y z : List UInt8} (h : ordR a t1 u1 x b t2 u2 y < 0) (h' : ordR b t2 u2 y c t3 u3 z < 0) : ordR a t1 u1 x c t3 u3 z < 0 := by
 unfold ordR at *
 refine or2_trans (fun p q => ?_) (fun e => ?_) (fun e => ?_) (fun p q => ?_) h h'
 · exact or2_trans ord_trans (fun e => by rw [(ord_zero _ _).1 e]) (fun e => by rw [(ord_zero _ _).1 e]) cmpI_trans p q
 · obtain ⟨e1, e2⟩ := (or2_zero _ _).1 e
   rw [(ord_zero _ _).1 e1, (cmpI_zero _ _).1 e2]
 · obtain ⟨e1, e2⟩ := (or2_zero _ _).1 e
   rw [(ord_zero _ _).1 e1, (cmpI_zero _ _).1 e2]
 · exact or2_trans cmpB_trans (fun e => by rw [(cmpB_zero _ _).1 e]) (fun e => by rw [(cmpB_zero _ _).1 e]) cmpI_trans p q
theorem od_trans {q r s : IRec} (h : od q r < 0) (h' : od r s < 0) : od q s < 0 := ordR_trans h h'
theorem od_neg (q r : IRec) : od r q = - od q r := ordR_neg ..
theorem w64p {n : Nat} (h0 : 0 < n) (h : n < 4611686018427387904) : wrap64 ((n : Int) - 1) = ((n - 1 : Nat) : Int) := by unfold wrap64; omega
theorem toL_iff (x y : ByteArray) : x.toList = y.toList ↔ x = y := ⟨fun h => by rw [Lib.toList_data, Lib.toList_data] at h; exact ext_data h, fun h => by rw [h]⟩
def valG (o : Option (List SSet)) : List SSet × Bool := match o with | none => ([], false) | some S => (S, decide ((S.length : Int) ≤ 40))
theorem l3_same (k : Nat) (acc : List SSet) (x7 : Int) (all : List IRec) (n i : Int) (a : ByteArray) (b c : Int) (d : ByteArray) : spec_l3Sets.j1 (k + 1) acc x7 all n i true a b c d = (if 0 ≤ x7 then (if x7 < (acc.length : Int) then (if ((rd_T83 acc x7).f2) = c then (if ((rd_T83 acc x7).f3).length < 8796093022208 then (spec_l3Sets.l0 k (acc.set (x7 : Int).toNat (⟨(rd_T83 acc x7).f0, (rd_T83 acc x7).f1, (rd_T83 acc x7).f2, (((rd_T83 acc x7).f3) ++ [d])⟩ : SSet)) all n (wrap64 (i + 1))) else (none)) else (some (([] : List SSet), false))) else (none)) else (none)) := rfl
theorem l3_new (k : Nat) (acc : List SSet) (x7 : Int) (all : List IRec) (n i : Int) (a : ByteArray) (b c : Int) (d : ByteArray) : spec_l3Sets.j1 (k + 1) acc x7 all n i false a b c d = (if acc.length < 2513169434916 then (spec_l3Sets.l0 k (acc ++ [(⟨a, b, c, (([d] : List ByteArray))⟩ : SSet)]) all n (wrap64 (i + 1))) else (none)) := rfl
theorem l3_loop (all : List IRec) (hl : all.length < 1099511627776) : ∀ (m i : Nat) (acc : List SSet), i + m = all.length → acc.length ≤ i → (∀ s ∈ acc, s.f3.length ≤ i) → Ev (fun k => spec_l3Sets.l0 k acc all (all.length : Int) (i : Int)) (valG (gf acc (all.drop i)))
 | 0, i, acc, hi, ha, hs => by
  rw [List.drop_of_length_le (by omega)]
  refine Ev.step (f := fun _ => some (acc, decide ((acc.length : Int) ≤ 40))) (fun k => ?_) (Ev.now _)
  show spec_l3Sets.l0 (k + 1) acc all (all.length : Int) (i : Int) = _
  rw [spec_l3Sets.l0, if_neg (by omega)]
 | m + 1, i, acc, hi, ha, hs => by
  have hlt : i < all.length := by omega
  have hw : wrap64 ((i : Int) + 1) = ((i + 1 : Nat) : Int) := w64n (by omega)
  rw [List.drop_eq_getElem_cons hlt]
  show Ev _ (valG ((gstep acc all[i]).bind fun a => gf a (all.drop (i + 1))))
  have hnew : ∀ x7 : Int, Ev (fun k => spec_l3Sets.j1 k acc x7 all (all.length : Int) (i : Int) false all[i].f0 all[i].f1 all[i].f2 all[i].f3) (valG (gf (acc ++ [new all[i]]) (all.drop (i + 1)))) := by
   intro x7
   have ih := l3_loop all hl m (i + 1) (acc ++ [new all[i]]) (by omega) (by rw [List.length_append, List.length_singleton]; omega) (fun s h => by
    rcases List.mem_append.1 h with h | h
    · have := hs s h; omega
    · rw [List.mem_singleton.1 h]; simp [new])
   refine Ev.step (fun k => ?_) ih
   rw [l3_new, if_pos (by omega), hw]
   rfl
  have e0 : ∀ k, spec_l3Sets.l0 (k + 1) acc all (all.length : Int) (i : Int) = (if (wrap64 ((acc.length : Int) - 1)) ≥ 0 then (if 0 ≤ (wrap64 ((acc.length : Int) - 1)) then (if (wrap64 ((acc.length : Int) - 1)) < (acc.length : Int) then (if ((rd_T83 acc (wrap64 ((acc.length : Int) - 1))).f0).toList = all[i].f0.toList then (spec_l3Sets.j1 k acc (wrap64 ((acc.length : Int) - 1)) all (all.length : Int) (i : Int) (((rd_T83 acc (wrap64 ((acc.length : Int) - 1))).f1) == all[i].f1) all[i].f0 all[i].f1 all[i].f2 all[i].f3) else (spec_l3Sets.j1 k acc (wrap64 ((acc.length : Int) - 1)) all (all.length : Int) (i : Int) false all[i].f0 all[i].f1 all[i].f2 all[i].f3)) else (none)) else (none)) else (spec_l3Sets.j1 k acc (wrap64 ((acc.length : Int) - 1)) all (all.length : Int) (i : Int) false all[i].f0 all[i].f1 all[i].f2 all[i].f3)) := fun k => by
   rw [spec_l3Sets.l0, if_pos (by omega), if_pos (by omega), if_pos (by omega), rdI all i hlt]
  refine Ev.step e0 ?_
  unfold gstep
  rcases List.eq_nil_or_concat acc with rfl | ⟨pre, q, rfl⟩
  · have hww : wrap64 ((([] : List SSet).length : Int) - 1) = -1 := by show wrap64 (((0 : Nat) : Int) - 1) = -1; unfold wrap64; omega
    simp only [hww, if_neg (show ¬ ((-1 : Int) ≥ 0) by omega), List.getLast?_nil, Option.bind_some]
    exact hnew _
  · rw [List.concat_eq_append] at *
    have hlen : (pre ++ [q]).length = pre.length + 1 := by simp
    have hww : wrap64 (((pre ++ [q]).length : Int) - 1) = (pre.length : Int) := by rw [hlen, w64p (by omega) (by omega)]; rfl
    have hrd : rd_T83 (pre ++ [q]) (pre.length : Int) = q := by rw [rdSS _ _ (by omega)]; simp
    simp only [hww, hrd, if_pos (show (pre.length : Int) ≥ 0 by omega), if_pos (show (0 : Int) ≤ (pre.length : Int) by omega), if_pos (show (pre.length : Int) < ((pre ++ [q]).length : Int) by omega), List.getLast?_append, List.getLast?_singleton, Option.some_or]
    by_cases h0 : q.f0 = all[i].f0
    · simp only [if_pos ((toL_iff _ _).2 h0)]
      by_cases h1 : q.f1 = all[i].f1
      · rw [if_pos ⟨h0, h1⟩, show (q.f1 == all[i].f1) = true by rw [h1]; exact beq_self_eq_true _]
        by_cases h2 : q.f2 = all[i].f2
        · rw [if_pos h2, Option.bind_some]
          have hq3 := hs q (by simp)
          have hset : (pre ++ [q]).set ((pre ++ [q]).length - 1) (⟨q.f0, q.f1, q.f2, q.f3 ++ [all[i].f3]⟩ : SSet) = (pre ++ [q]).set pre.length (⟨q.f0, q.f1, q.f2, q.f3 ++ [all[i].f3]⟩ : SSet) := by rw [hlen, Nat.add_sub_cancel]
          rw [hset]
          have ih := l3_loop all hl m (i + 1) ((pre ++ [q]).set pre.length (⟨q.f0, q.f1, q.f2, q.f3 ++ [all[i].f3]⟩ : SSet)) (by omega) (by rw [List.length_set]; omega) (fun s h => by
           rcases List.mem_or_eq_of_mem_set h with h | rfl
           · have := hs s h; omega
           · show (q.f3 ++ [all[i].f3]).length ≤ i + 1
             rw [List.length_append, List.length_singleton]; omega)
          refine Ev.step (fun k => ?_) ih
          rw [l3_same, if_pos (by omega), if_pos (by omega), hrd, if_pos h2, if_pos (by omega), hw, Int.toNat_natCast]
        · rw [if_neg h2]
          refine Ev.step (f := fun _ => some (([] : List SSet), false)) (fun k => ?_) (Ev.now _)
          rw [l3_same, if_pos (by omega), if_pos (by omega), hrd, if_neg h2]
      · rw [if_neg (fun h => h1 h.2), beq_eq_false_iff_ne.2 h1, Option.bind_some]
        exact hnew _
    · simp only [if_neg (fun h => h0 ((toL_iff _ _).1 h))]
      rw [if_neg (fun h => h0 h.1), Option.bind_some]
      exact hnew _
theorem l3_ev (all : List IRec) (hl : all.length < 1099511627776) : Ev (fun k => spec_l3Sets.f k all) (valG (gf [] all)) :=
 Ev.congr (fun k => rfl) (l3_loop all hl all.length 0 [] (by omega) (by simp) (fun s h => by cases h))
theorem recsOf_new (r : IRec) : recsOf (new r) = [r] := by cases r; rfl
theorem gstep_flat {acc acc' : List SSet} {r : IRec} (h : gstep acc r = some acc') : acc'.flatMap recsOf = acc.flatMap recsOf ++ [r] ∧ (∀ s ∈ acc', s.f3 ≠ [] ∨ s ∈ acc) := by
 have hnew : acc' = acc ++ [new r] → acc'.flatMap recsOf = acc.flatMap recsOf ++ [r] ∧ (∀ s ∈ acc', s.f3 ≠ [] ∨ s ∈ acc) := by
  rintro rfl
  refine ⟨by rw [List.flatMap_append, List.flatMap_singleton, recsOf_new], fun s hs => ?_⟩
  rcases List.mem_append.1 hs with h | h
  · exact .inr h
  · rw [List.mem_singleton.1 h]; exact .inl (by simp [new])
 unfold gstep at h
 rcases List.eq_nil_or_concat acc with rfl | ⟨pre, s, rfl⟩
 · exact hnew (Option.some.inj h).symm
 · rw [List.concat_eq_append] at *
   rw [List.getLast?_append, List.getLast?_singleton] at h
   replace h : (if s.f0 = r.f0 ∧ s.f1 = r.f1 then (if s.f2 = r.f2 then some ((pre ++ [s]).set ((pre ++ [s]).length - 1) ⟨s.f0, s.f1, s.f2, s.f3 ++ [r.f3]⟩) else none) else some ((pre ++ [s]) ++ [new r])) = some acc' := h
   by_cases c : s.f0 = r.f0 ∧ s.f1 = r.f1
   · rw [if_pos c] at h
     by_cases c2 : s.f2 = r.f2
     · rw [if_pos c2] at h
       have hset : (pre ++ [s]).set ((pre ++ [s]).length - 1) (⟨s.f0, s.f1, s.f2, s.f3 ++ [r.f3]⟩ : SSet) = pre ++ [⟨s.f0, s.f1, s.f2, s.f3 ++ [r.f3]⟩] := by simp
       rw [hset] at h
       obtain rfl := Option.some.inj h
       refine ⟨?_, fun x hx => ?_⟩
       · have e : recsOf (⟨s.f0, s.f1, s.f2, s.f3 ++ [r.f3]⟩ : SSet) = recsOf s ++ [r] := by
          unfold recsOf recs
          rw [List.map_append, List.map_singleton, c.1, c.2, c2]
         rw [List.flatMap_append, List.flatMap_append, List.flatMap_singleton, List.flatMap_singleton, e, List.append_assoc]
       · rcases List.mem_append.1 hx with h | h
         · exact .inr (by simp [h])
         · rw [List.mem_singleton.1 h]; exact .inl (by simp)
     · rw [if_neg c2] at h; cases h
   · rw [if_neg c] at h
     exact hnew (Option.some.inj h).symm
theorem gf_flat : ∀ (R : List IRec) (acc S : List SSet), gf acc R = some S → S.flatMap recsOf = acc.flatMap recsOf ++ R
 | [], acc, S, h => by
  obtain rfl := Option.some.inj (show some acc = some S from h)
  simp
 | r :: R, acc, S, h => by
  obtain ⟨a, ha, h⟩ := Option.bind_eq_some_iff.1 (show (gstep acc r).bind (fun a => gf a R) = some S from h)
  rw [gf_flat R a S h, (gstep_flat ha).1, List.append_assoc]
  rfl
end Go.Proofs.YtiegkjimpclmaaaGreatDoor.Pure
namespace Go.Proofs.YtiegkjimpclmaaaGreatDoor.Pure
open Go.RowKit Go.Proofs.YtiegkjimpclmaaaGreatDoor.P Go.Proofs.YtiegkjimpclmaaaGreatDoorW.PrintWords Go.Proofs.YtiegkjimpclmaaaGreatDoorW.PrintLast Go.Proofs.YtiegkjimpclmaaaGreatDoorW.PrintMore
set_option linter.unusedVariables false
set_option linter.unusedSimpArgs false
theorem od_same {q r : IRec} (hq : SmR q) (hr : SmR r) (gq : gd q = true) (gr : gd r = true) (h : od q r = 0) : q = r := by
 obtain ⟨x, ex, x1, x2⟩ := bt_eq hq gq
 obtain ⟨y, ey, y1, y2⟩ := bt_eq hr gr
 unfold od at h
 rw [ordR_zero, ex, ey] at h
 obtain ⟨e0, e1, e3, e2⟩ := h
 have e3 := ext_data e3
 have e0 := ext_data e0
 subst e3
 rw [e1] at x2
 have e4 := (Prod.mk.inj (Ev.unique (data_back hq.2 x2) (data_back hr.2 y2))).1
 cases q
 cases r
 simp only at e0 e1 e2 e4
 subst e0 e1 e2 e4
 rfl
def Goods (xs : List IRec) : Prop := ∀ x ∈ xs, SmR x ∧ gd x = true
def Inline (ys : List IRec) : Prop := ys.Pairwise (fun x y => ¬ od y x < 0)
theorem inline_one : ∀ (a b : List IRec), a.Perm b → Goods a → Inline a → Inline b → a = b
 | [], b, hp, _, _, _ => (List.nil_perm.1 hp).symm
 | x :: a, [], hp, _, _, _ => by have := hp.length_eq; simp at this
 | x :: a, y :: b, hp, hg, ha, hb => by
  have hx : x ∈ y :: b := hp.subset (by simp)
  have hy : y ∈ x :: a := hp.symm.subset (by simp)
  have h1 : x = y := by
   rcases List.mem_cons.1 hx with e | hx
   · exact e
   · rcases List.mem_cons.1 hy with e | hy
     · exact e.symm
     · have h1 := (List.pairwise_cons.1 ha).1 y hy
       have h2 := (List.pairwise_cons.1 hb).1 x hx
       have h3 := od_neg x y
       exact od_same (hg x (by simp)).1 (hg y (by simp [hy])).1 (hg x (by simp)).2 (hg y (by simp [hy])).2 (by omega)
  subst h1
  rw [inline_one a b ((List.perm_cons x).1 hp) (fun z hz => hg z (by simp [hz])) (List.pairwise_cons.1 ha).2 (List.pairwise_cons.1 hb).2]
open Classical in
noncomputable def inOrder (xs : List IRec) : List IRec := if h : ∃ ys : List IRec, ys.Perm xs ∧ Inline ys then Classical.choose h else []
theorem inOrder_eq {xs ys : List IRec} (hg : Goods xs) (hp : ys.Perm xs) (hs : Inline ys) : inOrder xs = ys := by
 have h : ∃ ys : List IRec, ys.Perm xs ∧ Inline ys := ⟨ys, hp, hs⟩
 unfold inOrder
 rw [dif_pos h]
 obtain ⟨h1, h2⟩ := Classical.choose_spec h
 exact inline_one _ _ (h1.trans hp.symm) (fun z hz => hg z (h1.subset hz)) h2 hs
noncomputable def insW (r : IRec) : List IRec → List IRec
 | [] => [r]
 | y :: ys => if od y r < 0 then y :: insW r ys else r :: y :: ys
theorem insW_perm (r : IRec) : ∀ ys, (insW r ys).Perm (r :: ys)
 | [] => List.Perm.refl _
 | y :: ys => by
  unfold insW
  by_cases h : od y r < 0
  · rw [if_pos h]; exact ((insW_perm r ys).cons y).trans (List.Perm.swap r y ys)
  · rw [if_neg h]
theorem od_ntrans {a b c : IRec} (ha : SmR a ∧ gd a = true) (hb : SmR b ∧ gd b = true) (h : ¬ od b a < 0) (h' : ¬ od c b < 0) : ¬ od c a < 0 := by
 intro h3
 have h4 := od_neg a b
 by_cases h5 : od a b < 0
 · exact h' (od_trans h3 h5)
 · have := od_same ha.1 hb.1 ha.2 hb.2 (by omega)
   subst this
   exact h' h3
theorem insW_line (r : IRec) (hr : SmR r ∧ gd r = true) : ∀ ys, Goods ys → Inline ys → Inline (insW r ys)
 | [], _, _ => by unfold insW; exact List.pairwise_singleton _ _
 | y :: ys, hg, hs => by
  have h1 := List.pairwise_cons.1 hs
  unfold insW
  by_cases h : od y r < 0
  · rw [if_pos h]
    refine List.pairwise_cons.2 ⟨fun z hz => ?_, insW_line r hr ys (fun z hz => hg z (by simp [hz])) h1.2⟩
    rcases List.mem_cons.1 ((insW_perm r ys).subset hz) with rfl | hz
    · have := od_neg y z; omega
    · exact h1.1 z hz
  · rw [if_neg h]
    refine List.pairwise_cons.2 ⟨fun z hz => ?_, hs⟩
    rcases List.mem_cons.1 hz with rfl | hz
    · exact h
    · exact od_ntrans hr (hg y (by simp)) h (h1.1 z hz)
theorem ex_line : ∀ xs, Goods xs → ∃ ys : List IRec, ys.Perm xs ∧ Inline ys
 | [], _ => ⟨[], List.Perm.refl _, List.Pairwise.nil⟩
 | x :: xs, hg => by
  obtain ⟨ys, hp, hs⟩ := ex_line xs (fun z hz => hg z (by simp [hz]))
  exact ⟨insW x ys, (insW_perm x ys).trans (hp.cons x), insW_line x (hg x (by simp)) ys (fun z hz => hg z (by simp [hp.subset hz])) hs⟩
theorem inOrder_spec {xs : List IRec} (hg : Goods xs) : (inOrder xs).Perm xs ∧ Inline (inOrder xs) := by
 unfold inOrder
 rw [dif_pos (ex_line xs hg)]
 exact Classical.choose_spec (ex_line xs hg)
def Strict (ys : List IRec) : Prop := ys.Pairwise (fun x y => od x y < 0)
theorem strict_one : ∀ (a b : List IRec), (∀ x, x ∈ a ↔ x ∈ b) → Strict a → Strict b → a = b
 | [], [], _, _, _ => rfl
 | [], y :: b, h, _, _ => by have := (h y).2 (by simp); simp at this
 | x :: a, [], h, _, _ => by have := (h x).1 (by simp); simp at this
 | x :: a, y :: b, h, ha, hb => by
  have ha' := List.pairwise_cons.1 ha
  have hb' := List.pairwise_cons.1 hb
  have h1 : x = y := by
   rcases List.mem_cons.1 ((h x).1 (by simp)) with e | hx
   · exact e
   · rcases List.mem_cons.1 ((h y).2 (by simp)) with e | hy
     · exact e.symm
     · have h1 := ha'.1 y hy
       have h2 := hb'.1 x hx
       have h3 := od_neg x y
       omega
  subst h1
  have hx : od x x = 0 := by have := od_neg x x; omega
  rw [strict_one a b (fun z => ?_) ha'.2 hb'.2]
  constructor
  · intro hz
    rcases List.mem_cons.1 ((h z).1 (by simp [hz])) with rfl | hz'
    · have := ha'.1 z hz; omega
    · exact hz'
  · intro hz
    rcases List.mem_cons.1 ((h z).2 (by simp [hz])) with rfl | hz'
    · have := hb'.1 z hz; omega
    · exact hz'
open Classical in
noncomputable def dd : Option IRec → List IRec → List IRec
 | _, [] => []
 | p, x :: xs => if p = some x then dd p xs else x :: dd (some x) xs
def Ahead (p : Option IRec) (ys : List IRec) : Prop := ∀ r, p = some r → (SmR r ∧ gd r = true) ∧ ∀ y ∈ ys, ¬ od y r < 0
theorem Ahead.tail {p : Option IRec} {y : IRec} {ys : List IRec} (h : Ahead p (y :: ys)) : Ahead p ys := fun r e => ⟨(h r e).1, fun z hz => (h r e).2 z (by simp [hz])⟩
theorem Ahead.next {y : IRec} {ys : List IRec} (hg : Goods (y :: ys)) (hs : Inline (y :: ys)) : Ahead (some y) ys := fun r e => by
 cases e
 exact ⟨hg y (by simp), (List.pairwise_cons.1 hs).1⟩
theorem Ahead.lt {p : Option IRec} {y r : IRec} {ys : List IRec} (h : Ahead p (y :: ys)) (hg : Goods (y :: ys)) (hn : p ≠ some y) (e : p = some r) : od r y < 0 := by
 have h1 := (h r e).2 y (by simp)
 have h2 := od_neg r y
 by_cases c : od r y = 0
 · have := od_same (h r e).1.1 (hg y (by simp)).1 (h r e).1.2 (hg y (by simp)).2 c
   subst this
   exact absurd e hn
 · omega
theorem dd_spec : ∀ (ys : List IRec) (p : Option IRec), Goods ys → Inline ys → Ahead p ys → Strict (dd p ys) ∧ (∀ x ∈ dd p ys, x ∈ ys ∧ ∀ r, p = some r → od r x < 0) ∧ (∀ x ∈ ys, x ∈ dd p ys ∨ p = some x)
 | [], p, _, _, _ => ⟨by unfold dd; exact List.Pairwise.nil, fun x hx => by simp [dd] at hx, fun x hx => by simp at hx⟩
 | y :: ys, p, hg, hs, hp => by
  have hg' : Goods ys := fun z hz => hg z (by simp [hz])
  have hs' := List.pairwise_cons.1 hs
  unfold dd
  by_cases c : p = some y
  · rw [if_pos c]
    obtain ⟨i1, i2, i3⟩ := dd_spec ys p hg' hs'.2 hp.tail
    refine ⟨i1, fun x hx => ⟨by simp [(i2 x hx).1], (i2 x hx).2⟩, fun x hx => ?_⟩
    rcases List.mem_cons.1 hx with rfl | hx
    · exact .inr c
    · exact i3 x hx
  · rw [if_neg c]
    obtain ⟨i1, i2, i3⟩ := dd_spec ys (some y) hg' hs'.2 (Ahead.next hg hs)
    refine ⟨List.pairwise_cons.2 ⟨fun x hx => (i2 x hx).2 y rfl, i1⟩, fun x hx => ?_, fun x hx => ?_⟩
    · rcases List.mem_cons.1 hx with rfl | hx
      · exact ⟨by simp, fun r e => hp.lt hg c e⟩
      · exact ⟨by simp [(i2 x hx).1], fun r e => od_trans (hp.lt hg c e) ((i2 x hx).2 y rfl)⟩
    · rcases List.mem_cons.1 hx with rfl | hx
      · exact .inl (by simp)
      · rcases i3 x hx with h | h
        · exact .inl (by simp [h])
        · cases h; exact .inl (by simp)
theorem dd_len : ∀ (ys : List IRec) (p : Option IRec), (dd p ys).length ≤ ys.length
 | [], p => by simp [dd]
 | y :: ys, p => by
  unfold dd
  split
  · have := dd_len ys p; simp only [List.length_cons]; omega
  · have := dd_len ys (some y); simp only [List.length_cons]; omega
noncomputable def uniq (xs : List IRec) : List IRec := dd none (inOrder xs)
theorem inOrder_good {xs : List IRec} (hg : Goods xs) : Goods (inOrder xs) := fun z hz => hg z ((inOrder_spec hg).1.subset hz)
theorem uniq_spec {xs : List IRec} (hg : Goods xs) : Strict (uniq xs) ∧ (∀ x, x ∈ uniq xs ↔ x ∈ xs) ∧ (uniq xs).length ≤ xs.length := by
 obtain ⟨h1, h2, h3⟩ := dd_spec (inOrder xs) none (inOrder_good hg) (inOrder_spec hg).2 (fun r e => by cases e)
 refine ⟨h1, fun x => ⟨fun h => (inOrder_spec hg).1.subset (h2 x h).1, fun h => ?_⟩, ?_⟩
 · rcases h3 x ((inOrder_spec hg).1.symm.subset h) with h | h
   · exact h
   · cases h
 · rw [← (inOrder_spec hg).1.length_eq]; exact dd_len _ _
open Classical in
noncomputable def insS (r : IRec) : List IRec → List IRec
 | [] => [r]
 | y :: ys => if od y r < 0 then y :: insS r ys else if y = r then y :: ys else r :: y :: ys
theorem insS_mem (r : IRec) : ∀ (ys : List IRec) (x : IRec), x ∈ insS r ys ↔ x = r ∨ x ∈ ys
 | [], x => by simp [insS]
 | y :: ys, x => by
  unfold insS
  by_cases h : od y r < 0
  · rw [if_pos h]
    simp only [List.mem_cons, insS_mem r ys x]
    constructor
    · rintro (h | h | h) <;> simp [h]
    · rintro (h | h | h) <;> simp [h]
  · rw [if_neg h]
    by_cases c : y = r
    · rw [if_pos c]; simp only [List.mem_cons, c]; constructor
      · rintro (h | h) <;> simp [h]
      · rintro (h | h | h) <;> simp [h]
    · rw [if_neg c]; simp only [List.mem_cons]
theorem insS_strict (r : IRec) (hr : SmR r ∧ gd r = true) : ∀ (ys : List IRec), Goods ys → Strict ys → Strict (insS r ys)
 | [], _, _ => by unfold insS; exact List.pairwise_singleton _ _
 | y :: ys, hg, hs => by
  have hs' := List.pairwise_cons.1 hs
  have hy := hg y (by simp)
  unfold insS
  by_cases h : od y r < 0
  · rw [if_pos h]
    refine List.pairwise_cons.2 ⟨fun z hz => ?_, insS_strict r hr ys (fun z hz => hg z (by simp [hz])) hs'.2⟩
    rcases (insS_mem r ys z).1 hz with rfl | hz
    · exact h
    · exact hs'.1 z hz
  · rw [if_neg h]
    by_cases c : y = r
    · rw [if_pos c]; exact hs
    · rw [if_neg c]
      have hry : od r y < 0 := by
       have h2 := od_neg r y
       by_cases c2 : od r y = 0
       · exact absurd (od_same hr.1 hy.1 hr.2 hy.2 c2).symm c
       · omega
      refine List.pairwise_cons.2 ⟨fun z hz => ?_, hs⟩
      rcases List.mem_cons.1 hz with rfl | hz
      · exact hry
      · exact od_trans hry (hs'.1 z hz)
theorem insS_len (r : IRec) : ∀ ys : List IRec, (insS r ys).length ≤ ys.length + 1
 | [] => by simp [insS]
 | y :: ys => by
  unfold insS
  split
  · have := insS_len r ys; simp only [List.length_cons]; omega
  · split <;> simp only [List.length_cons] <;> omega
noncomputable def insAll (acc : List IRec) (l : List IRec) : List IRec := l.foldl (fun a r => insS r a) acc
theorem insAll_spec : ∀ (l acc : List IRec), Goods l → Goods acc → Strict acc → Strict (insAll acc l) ∧ (∀ x, x ∈ insAll acc l ↔ x ∈ acc ∨ x ∈ l)
 | [], acc, _, _, hs => ⟨hs, fun x => by simp [insAll]⟩
 | r :: l, acc, hg, ha, hs => by
  have hr := hg r (by simp)
  obtain ⟨i1, i2⟩ := insAll_spec l (insS r acc) (fun z hz => hg z (by simp [hz])) (fun z hz => by
   rcases (insS_mem r acc z).1 hz with rfl | hz
   · exact hr
   · exact ha z hz) (insS_strict r hr acc ha hs)
  refine ⟨i1, fun x => ?_⟩
  show x ∈ insAll (insS r acc) l ↔ _
  rw [i2, insS_mem, List.mem_cons]
  constructor
  · rintro ((h | h) | h) <;> simp [h]
  · rintro (h | h | h) <;> simp [h]
theorem insAll_uniq {l : List IRec} (hg : Goods l) : insAll [] l = uniq l := by
 obtain ⟨i1, i2⟩ := insAll_spec l [] hg (fun z hz => by simp at hz) List.Pairwise.nil
 obtain ⟨u1, u2, _⟩ := uniq_spec hg
 exact strict_one _ _ (fun x => by rw [i2, u2]; simp) i1 u1
open Classical in
noncomputable def gstepC (acc : List SSet) (r : IRec) : Option (List SSet) :=
 match acc.getLast? with
 | none => some (acc ++ [new r])
 | some s => if s.f0 = r.f0 ∧ s.f1 = r.f1 then (if s.f2 = r.f2 then (if r.f3 ∈ s.f3 then some acc else some (acc.set (acc.length - 1) ⟨s.f0, s.f1, s.f2, s.f3 ++ [r.f3]⟩)) else none) else some (acc ++ [new r])
noncomputable def gfC : List SSet → List IRec → Option (List SSet)
 | acc, [] => some acc
 | acc, r :: R => (gstepC acc r).bind fun a => gfC a R
def Conn (p : Option IRec) (acc : List SSet) : Prop := (p = none ∧ acc = []) ∨ ∃ r pre s, p = some r ∧ acc = pre ++ [s] ∧ s.f0 = r.f0 ∧ s.f1 = r.f1 ∧ s.f2 = r.f2 ∧ r.f3 ∈ s.f3 ∧ ∀ d ∈ s.f3, (⟨s.f0, s.f1, s.f2, d⟩ : IRec) = r ∨ od ⟨s.f0, s.f1, s.f2, d⟩ r < 0
theorem conn_new (acc : List SSet) (y : IRec) : Conn (some y) (acc ++ [new y]) :=
 .inr ⟨y, acc, new y, rfl, rfl, rfl, rfl, rfl, by simp [new], fun d hd => .inl (by simp only [new, List.mem_singleton] at hd; rw [hd]; cases y; rfl)⟩
open Classical in
theorem gf_dd : ∀ (ys : List IRec) (p : Option IRec) (acc : List SSet), Goods ys → Inline ys → Ahead p ys → Conn p acc → gfC acc ys = gf acc (dd p ys)
 | [], p, acc, _, _, _, _ => by simp [gfC, dd, gf]
 | y :: ys, p, acc, hg, hs, hp, hc => by
  have hg' : Goods ys := fun z hz => hg z (by simp [hz])
  have hs' := (List.pairwise_cons.1 hs).2
  have hnext : ∀ acc', Conn (some y) acc' → gfC acc' ys = gf acc' (dd (some y) ys) := fun acc' h => gf_dd ys (some y) acc' hg' hs' (Ahead.next hg hs) h
  unfold gfC dd
  by_cases c : p = some y
  · rw [if_pos c]
    rcases hc with ⟨h, _⟩ | ⟨r, pre, s, e, rfl, e0, e1, e2, hm, hd⟩
    · rw [h] at c; cases c
    · have er : r = y := by rw [e] at c; exact Option.some.inj c
      subst er
      have : gstepC (pre ++ [s]) r = some (pre ++ [s]) := by
       unfold gstepC
       rw [List.getLast?_append, List.getLast?_singleton]
       show (if s.f0 = r.f0 ∧ s.f1 = r.f1 then (if s.f2 = r.f2 then (if r.f3 ∈ s.f3 then _ else _) else none) else _) = _
       rw [if_pos ⟨e0, e1⟩, if_pos e2, if_pos hm]
      rw [this, Option.bind_some]
      exact gf_dd ys p _ hg' hs' hp.tail (.inr ⟨r, pre, s, e, rfl, e0, e1, e2, hm, hd⟩)
  · rw [if_neg c]
    show _ = (gstep acc y).bind fun a => gf a (dd (some y) ys)
    rcases hc with ⟨_, rfl⟩ | ⟨r, pre, s, e, rfl, e0, e1, e2, hm, hd⟩
    · have h1 : gstepC [] y = some ([] ++ [new y]) := rfl
      have h2 : gstep [] y = some ([] ++ [new y]) := rfl
      rw [h1, h2, Option.bind_some, Option.bind_some]
      exact hnext _ (conn_new [] y)
    · have hlt := hp.lt hg c e
      unfold gstepC gstep
      rw [List.getLast?_append, List.getLast?_singleton]
      show (Option.bind (if s.f0 = y.f0 ∧ s.f1 = y.f1 then (if s.f2 = y.f2 then (if y.f3 ∈ s.f3 then some (pre ++ [s]) else some ((pre ++ [s]).set ((pre ++ [s]).length - 1) ⟨s.f0, s.f1, s.f2, s.f3 ++ [y.f3]⟩)) else none) else some ((pre ++ [s]) ++ [new y])) _) = (Option.bind (if s.f0 = y.f0 ∧ s.f1 = y.f1 then (if s.f2 = y.f2 then some ((pre ++ [s]).set ((pre ++ [s]).length - 1) ⟨s.f0, s.f1, s.f2, s.f3 ++ [y.f3]⟩) else none) else some ((pre ++ [s]) ++ [new y])) _)
      by_cases ck : s.f0 = y.f0 ∧ s.f1 = y.f1
      · rw [if_pos ck, if_pos ck]
        by_cases ct : s.f2 = y.f2
        · have ey : (⟨s.f0, s.f1, s.f2, y.f3⟩ : IRec) = y := by rw [ck.1, ck.2, ct]
          have hn : y.f3 ∉ s.f3 := fun h => by
           rcases hd _ h with h | h
           · rw [ey] at h; rw [← h] at e; exact c e
           · rw [ey] at h; exact (hp r e).2 y (by simp) h
          rw [if_pos ct, if_pos ct, if_neg hn, Option.bind_some, Option.bind_some]
          have hset : (pre ++ [s]).set ((pre ++ [s]).length - 1) (⟨s.f0, s.f1, s.f2, s.f3 ++ [y.f3]⟩ : SSet) = pre ++ [⟨s.f0, s.f1, s.f2, s.f3 ++ [y.f3]⟩] := by simp
          rw [hset]
          refine hnext _ (.inr ⟨y, pre, _, rfl, rfl, ck.1, ck.2, ct, by simp, fun d hd' => ?_⟩)
          rcases List.mem_append.1 hd' with h | h
          · right
            rcases hd d h with h | h
            · show od ⟨s.f0, s.f1, s.f2, d⟩ y < 0
              rw [h]; exact hlt
            · exact od_trans h hlt
          · rw [List.mem_singleton.1 h]; exact .inl ey
        · rw [if_neg ct, if_neg ct]; rfl
      · rw [if_neg ck, if_neg ck, Option.bind_some, Option.bind_some]
        exact hnext _ (conn_new _ y)
theorem gf_uniq {l : List IRec} (hg : Goods l) : gfC [] (inOrder l) = gf [] (uniq l) :=
 gf_dd (inOrder l) none [] (inOrder_good hg) (inOrder_spec hg).2 (fun r e => by cases e) (.inl ⟨rfl, rfl⟩)
end Go.Proofs.YtiegkjimpclmaaaGreatDoor.Pure
namespace Go.Proofs.YtiegkjimpclmaaaGreatDoor.P
open Go.Shelf Go.Sort Go.RowKit Go.Proofs.YtiegkjimpclmaaaGreatDoorW.PrintWords Go.Proofs.YtiegkjimpclmaaaGreatDoorW.PrintLast Go.Proofs.YtiegkjimpclmaaaGreatDoorW.PrintMore
set_option linter.unusedVariables false
set_option linter.unusedSimpArgs false
abbrev GR := {x : IR // Pure.SmR x ∧ Pure.gd x = true}
def encG (x : GR) : List Value := cellsR x.1
noncomputable def ordG (x y : GR) : Int := Pure.od x.1 y.1
theorem lt_g (x y : GR) : ltOf ordG x y = decide (Pure.od x.1 y.1 < 0) := rfl
theorem partsG (x y : GR) (h : ltOf ordG x y = false) (h' : ltOf ordG y x = false) : x = y := by
  rw [lt_g] at h h'
  have h1 := of_decide_eq_false h
  have h2 := of_decide_eq_false h'
  have h3 := Pure.od_neg x.1 y.1
  exact Subtype.ext (Pure.od_same x.2.1 y.2.1 x.2.2 y.2.2 (by omega))
theorem swoG : SWO (ltOf ordG) where
  irrefl x := by
    rw [lt_g]
    have := Pure.od_neg x.1 x.1
    exact decide_eq_false (by omega)
  trans x y z h h' := by
    rw [lt_g] at *
    exact decide_eq_true (Pure.od_trans (of_decide_eq_true h) (of_decide_eq_true h'))
  ntrans x y z h h' := by
    by_cases c : ltOf ordG y x = true
    · by_cases d : ltOf ordG z y = true
      · rw [lt_g] at *
        have h1 := Pure.od_trans (of_decide_eq_true d) (of_decide_eq_true c)
        have h2 := Pure.od_neg x.1 z.1
        exact decide_eq_false (by omega)
      · have := partsG y z h' (by simpa using d)
        rw [← this]; exact h
    · have := partsG x y h (by simpa using c)
      rw [this]; exact h'
theorem cmp_lays [Inhabited GR] (W0 W : World) (g n : Nat) (hv : Vars W0) (hB : ∀ m os (dk : Array GR), Go.RowKit.Below W0.heap.size W0 (sortWorldK encG 4 W g 0 m dk os)) : CmpLays Tryz.prog 77 #[] encG 4 ordG g 0 n W := by
  intro m os dk hs x y
  obtain ⟨K, hK⟩ := (Pure.od_ev x.2.1 y.2.1 x.2.2 y.2.2).1
  have h := hK K (Nat.le_refl _)
  rw [Array.append_empty]
  have hc := impl_compareRecords.calls K _ _ _ _ _ _ _ _ _ (sortWorldK encG 4 W g 0 m dk os) h (Vars.below hv (hB m os dk))
  refine (Dr.calls_up hc).mono ?_
  rintro e w' ⟨rfl, hb, hd⟩
  exact ⟨rfl, Dr.below_grow hb hd⟩
end Go.Proofs.YtiegkjimpclmaaaGreatDoor.P
