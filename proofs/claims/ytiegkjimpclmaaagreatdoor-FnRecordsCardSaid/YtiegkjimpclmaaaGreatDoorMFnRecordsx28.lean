/- FnRecords: part 29 of 29 of my texts for this claim, joined; the theorem stands in the last. Conditions: none beyond the statement's. -/
import Derived.Test.YtiegkjimpclmaaaGreatDoorMFnRecordsx27
import Derived.Test.YtiegkjimpclmaaaGreatDoorMFnRecordsx25
import Derived.Test.YtiegkjimpclmaaaGreatDoorCards
import Derived.Test.YtiegkjimpclmaaaGreatDoorTie
import Derived.Deep.DeepHandedRow
import Derived.Stop.LaidErr
import Derived.ProofKit
import Derived.OpenShut
import Derived.ShutString
import Derived.ChangeOld
namespace Go.Proofs.YtiegkjimpclmaaaGreatDoor.Pure
open Go.RowKit Go.Proofs.YtiegkjimpclmaaaGreatDoor.P Go.Proofs.YtiegkjimpclmaaaGreatDoorW.PrintWords Go.Proofs.YtiegkjimpclmaaaGreatDoorW.PrintLast Go.Proofs.YtiegkjimpclmaaaGreatDoorW.PrintMore
set_option linter.unusedVariables false
set_option linter.unusedSimpArgs false
theorem badD_ne {d : ByteArray} (h : badD = (d, true)) : False := by
 have := congrArg Prod.snd h
 exact Bool.noConfusion this
theorem read_data {kind : Int} {b d : ByteArray} (h : Ev (fun k => impl_ReadData.f k kind b) (d, true)) : Ev (fun k => impl_DataBytes.f k kind d) (b, true) := by
 obtain ⟨K, h⟩ := h
 have h : impl_ReadData.f K kind b = some (d, true) := h K (Nat.le_refl _)
 unfold impl_ReadData.f at h
 by_cases c : 100 < b.size
 · rw [if_pos c] at h
   exact (badD_ne (Option.some.inj h)).elim
 · rw [if_neg c] at h
   obtain ⟨p, hp, h⟩ := Option.bind_eq_some_iff.mp h
   unfold finI at h
   obtain ⟨q, hq, h⟩ := Option.bind_eq_some_iff.mp h
   have h := Option.some.inj h
   by_cases c2 : q.2 = true ∧ q.1.toList = b.toList
   · rw [if_pos c2] at h
     obtain ⟨rfl, _⟩ := Prod.mk.inj h
     have e : q = (b, true) := by
      obtain ⟨q1, q2⟩ := q
      obtain rfl : q2 = true := c2.1
      have : q1 = b := by
       have := c2.2
       rw [Lib.toList_data, Lib.toList_data] at this
       exact ext_data this
      rw [this]
     rw [e] at hq
     exact Ev.of (fun k => impl_DataBytes.mono _ _ _) hq
   · rw [if_neg c2] at h
     exact (badD_ne h).elim
theorem cmp_draw {l : List Int} (hl : Bytes l) : ∃ a b c d a' b' c' d', Ev (fun k => spec_DrawCompareRecords.f k l) (a, b, c, d, a', b', c', d') ∧ a.size ≤ 60 ∧ d.size ≤ 40 ∧ a'.size ≤ 60 ∧ d'.size ≤ 40 := by
 obtain ⟨a, b, c, d, at2, sd2, e1, ha, hd, hc2⟩ := rec_some hl (at_ := 0) (sd := 0) (n := 0) ⟨by omega, by omega⟩ (by omega)
 obtain ⟨a', b', c', d', at3, sd3, e2, ha', hd', hc3⟩ := rec_some hl hc2 (by omega) (sd := sd2)
 obtain ⟨x, at4, sd4, e3, hc4⟩ := one_some hl hc3 (by omega) (sd := sd3) 3
 obtain ⟨y, at5, sd5, e4, hc5⟩ := one_some hl hc4 (by omega) (sd := sd4) 6
 have hj1 : ∀ (a : ByteArray) (b c : Int) (d a' : ByteArray) (b' c' : Int) (d' : ByteArray), Ev (fun k => spec_DrawCompareRecords.j1 k a b c d a' b' c' d') (a, b, c, d, a', b', c', d') := fun a b c d a' b' c' d' => Ev.step (f := fun _ => some (a, b, c, d, a', b', c', d')) (fun k => rfl) (Ev.now _)
 have hj0 : ∀ (a' : ByteArray) (b' c' : Int) (d' : ByteArray), Ev (fun k => spec_DrawCompareRecords.j0 k l at4 sd4 a b c d a' b' c' d') (if y = true then (a, b, c, d, a, b, c, d) else (a, b, c, d, a', b', c', d')) := by
  intro a' b' c' d'
  refine Ev.step (f := fun k => spec_DrawCompareRecords.j0 (k + 1) l at4 sd4 a b c d a' b' c' d') (fun k => rfl) ?_
  simp only [spec_DrawCompareRecords.j0, e4, Option.bind_some]
  by_cases hy : y = true
  · simp only [if_pos hy]; exact hj1 ..
  · simp only [if_neg hy]; exact hj1 ..
 by_cases hx : x = true
 · have := hj0 a b' c' d'
   by_cases hy : y = true
   · rw [if_pos hy] at this
     refine ⟨a, b, c, d, a, b, c, d, Ev.congr (fun k => rfl) (Ev.bind e1 (Ev.bind e2 ?_)), ha, hd, ha, hd⟩
     simp only [e3, Option.bind_some, if_pos hx]
     exact this
   · rw [if_neg hy] at this
     refine ⟨a, b, c, d, a, b', c', d', Ev.congr (fun k => rfl) (Ev.bind e1 (Ev.bind e2 ?_)), ha, hd, ha, hd'⟩
     simp only [e3, Option.bind_some, if_pos hx]
     exact this
 · have := hj0 a' b' c' d'
   by_cases hy : y = true
   · rw [if_pos hy] at this
     refine ⟨a, b, c, d, a, b, c, d, Ev.congr (fun k => rfl) (Ev.bind e1 (Ev.bind e2 ?_)), ha, hd, ha, hd⟩
     simp only [e3, Option.bind_some, if_neg hx]
     exact this
   · rw [if_neg hy] at this
     refine ⟨a, b, c, d, a', b', c', d', Ev.congr (fun k => rfl) (Ev.bind e1 (Ev.bind e2 ?_)), ha, hd, ha', hd'⟩
     simp only [e3, Option.bind_some, if_neg hx]
     exact this
theorem eq_iff_toList (x y : ByteArray) : x.toList = y.toList ↔ x = y := ⟨fun h => by rw [Lib.toList_data, Lib.toList_data] at h; exact ext_data h, fun h => by rw [h]⟩
theorem comp_all (a : ByteArray) (b c : Int) (d : ByteArray) (a' : ByteArray) (b' c' : Int) (d' : ByteArray) (ha : a.size ≤ 1048576) (hd : d.size ≤ 1048576) (ha' : a'.size ≤ 1048576) (hd' : d'.size ≤ 1048576) :
 ∃ n o, Ev (fun k => spec_CompareRecords.f k a b c d a' b' c' d') (n, o) ∧ Ev (fun k => impl_CompareRecords.f k a b c d a' b' c' d') (n, o) ∧ Ev (fun k => impl_CompareRecords.f k a' b' c' d' a b c d) (wrap64 (-n), o) ∧
  (o = true → ((n == 0) == (a.toList == a'.toList && (b == b' && (c == c' && d.toList == d'.toList)))) = true) := by
 obtain ⟨g, _, g1, g2, _⟩ := goodrec_both a b c d ha hd
 obtain ⟨g', _, g1', g2', _⟩ := goodrec_both a' b' c' d' ha' hd'
 have w0 : wrap64 (-0) = 0 := by unfold wrap64; omega
 cases g with
 | false =>
  refine ⟨0, false, Ev.congr (fun k => rfl) (Ev.bind g1 (Ev.now _)), Ev.congr (fun k => rfl) (Ev.bind g2 (Ev.now _)), ?_, fun h => by cases h⟩
  rw [w0]
  cases g' with
  | false => exact Ev.congr (fun k => rfl) (Ev.bind g2' (Ev.now _))
  | true => exact Ev.congr (fun k => rfl) (Ev.bind g2' (Ev.bind g2 (Ev.now _)))
 | true =>
  cases g' with
  | false =>
   refine ⟨0, false, Ev.congr (fun k => rfl) (Ev.bind g1 (Ev.bind g1' (Ev.now _))), Ev.congr (fun k => rfl) (Ev.bind g2 (Ev.bind g2' (Ev.now _))), ?_, fun h => by cases h⟩
   rw [w0]
   exact Ev.congr (fun k => rfl) (Ev.bind g2' (Ev.now _))
  | true =>
   obtain ⟨x, x1, x2⟩ := good_bytes b d a c ha hd g2
   obtain ⟨x', x1', x2'⟩ := good_bytes b' d' a' c' ha' hd' g2'
   obtain ⟨_, p, _⟩ := good_parts a b c d ha hd g2
   obtain ⟨_, p', _⟩ := good_parts a' b' c' d' ha' hd' g2'
   have hr := ordR_range a.data.toList b c x.data.toList a'.data.toList b' c' x'.data.toList
   refine ⟨_, true, Ev.congr (fun k => rfl) (Ev.bind g1 (Ev.bind g1' (Ev.bind (specOrd_ev a b c d a' b' c' d' x x' ha ha' p p' x1 x1') (Ev.now _)))), Ev.congr (fun k => rfl) (Ev.bind g2 (Ev.bind g2' (Ev.bind (implOrd_ev a b c d a' b' c' d' x x' ha ha' x2 x2') (Ev.now _)))), ?_, fun _ => ?_⟩
   · have e : wrap64 (-(ordR a.data.toList b c x.data.toList a'.data.toList b' c' x'.data.toList)) = ordR a'.data.toList b' c' x'.data.toList a.data.toList b c x.data.toList := by
      rw [ordR_neg a.data.toList b c x.data.toList a'.data.toList b' c' x'.data.toList]
      unfold wrap64
      omega
     rw [e]
     exact Ev.congr (fun k => rfl) (Ev.bind g2' (Ev.bind g2 (Ev.bind (implOrd_ev a' b' c' d' a b c d x' x ha' ha x2' x2) (Ev.now _))))
   · have hiff : ordR a.data.toList b c x.data.toList a'.data.toList b' c' x'.data.toList = 0 ↔ (a.toList = a'.toList ∧ b = b' ∧ c = c' ∧ d.toList = d'.toList) := by
      rw [ordR_zero, eq_iff_toList, eq_iff_toList]
      constructor
      · rintro ⟨h1, rfl, h3, rfl⟩
        obtain rfl := ext_data h1
        obtain rfl := ext_data h3
        exact ⟨rfl, rfl, rfl, (Prod.mk.inj (Ev.unique (data_back hd x2) (data_back hd' x2'))).1⟩
      · rintro ⟨rfl, rfl, rfl, rfl⟩
        obtain rfl := (Prod.mk.inj (Ev.unique x2 x2')).1
        exact ⟨rfl, rfl, rfl, rfl⟩
     rw [beq_iff_eq, Bool.eq_iff_iff]
     simp only [beq_iff_eq, Bool.and_eq_true]
     exact hiff
theorem j5_ev (x : Bool) : Ev (fun k => laws_FnRecords.j5 k x) x := Ev.step (f := fun _ => some x) (fun k => rfl) (Ev.now _)
theorem j4_ev {l : List Int} (hl : Bytes l) : Ev (fun k => laws_FnRecords.j4 k l) true := by
 obtain ⟨a, b, c, d, a', b', c', d', e, ha, hd, ha', hd'⟩ := cmp_draw hl
 obtain ⟨n, o, h1, h2, h3, h4⟩ := comp_all a b c d a' b' c' d' (by omega) (by omega) (by omega) (by omega)
 refine Ev.step (f := fun k => laws_FnRecords.j4 (k + 1) l) (fun k => rfl) ?_
 simp only [laws_FnRecords.j4]
 refine Ev.bind e (Ev.bind h2 (Ev.bind h1 (Ev.bind h3 ?_)))
 simp only [beq_self_eq_true, if_true]
 by_cases ho : o = true
 · simp only [if_pos ho]
   rw [h4 ho]
   exact j5_ev true
 · simp only [if_neg ho]
   exact j5_ev true
theorem j3_ev {l : List Int} (hl : Bytes l) (kind : Int) (b p : ByteArray) (o : Bool) (h : o = true → Ev (fun k => impl_DataBytes.f k kind p) (b, true)) : Ev (fun k => laws_FnRecords.j3 k l kind b p o false) true := by
 refine Ev.step (f := fun k => laws_FnRecords.j3 (k + 1) l kind b p o false) (fun k => rfl) ?_
 simp only [laws_FnRecords.j3, Bool.false_eq_true, if_false]
 by_cases ho : o = true
 · simp only [if_pos ho]
   refine Ev.bind (h ho) ?_
   simp only [if_true]
   exact j4_ev hl
 · simp only [if_neg ho]
   exact j4_ev hl
theorem read_draw {l : List Int} (hl : Bytes l) : ∃ kind b, Ev (fun k => spec_DrawReadData.f k l) (kind, b) ∧ b.size ≤ 1048576 := by
 obtain ⟨a, b, c, d, at2, sd2, e1, ha, hd, hc2⟩ := rec_some hl (at_ := 0) (sd := 0) (n := 0) ⟨by omega, by omega⟩ (by omega)
 obtain ⟨q, q1, q2, _⟩ := data_full b d (by omega)
 obtain ⟨x, at4, sd4, e3, hc4⟩ := one_some hl hc2 (by omega) (sd := sd2) 4
 have hz : (if q.2 = true then q.1 else (⟨#[]⟩ : ByteArray)).size ≤ 100 := by
  by_cases h : q.2 = true
  · rw [if_pos h]
    obtain ⟨K, q2⟩ := q2
    have q2 := q2 K (Nat.le_refl _)
    rw [if_pos h] at q2
    exact (data_size (r := (q.1, true)) (by omega) q2 rfl).1
  · rw [if_neg h]; exact Nat.zero_le _
 have db : Ev (fun k => spec_DataBytes.f k b d) ((if q.2 = true then q.1 else (⟨#[]⟩ : ByteArray)), q.2) := by
  refine Ev.congr (fun k => rfl) (Ev.bind q1 ?_)
  by_cases h : q.2 = true
  · simp only [if_pos h]; rw [h]; exact Ev.now _
  · simp only [if_neg h]; rw [Bool.eq_false_iff.2 h]; exact Ev.now _
 by_cases hx : x = true
 · obtain ⟨s, at5, sd5, e5, hs, _⟩ := spoilt_some hl hc4 (by omega) (sd := sd4) (if q.2 = true then q.1 else (⟨#[]⟩ : ByteArray)) (⟨#[0, 1, 97]⟩ : ByteArray) (by decide) (by omega)
   refine ⟨b, s, Ev.congr (fun k => rfl) (Ev.bind e1 (Ev.bind db ?_)), by omega⟩
   simp only [e3, Option.bind_some, if_pos hx]
   exact Ev.bind e5 (Ev.now _)
 · refine ⟨b, (if q.2 = true then q.1 else (⟨#[]⟩ : ByteArray)), Ev.congr (fun k => rfl) (Ev.bind e1 (Ev.bind db ?_)), by omega⟩
   simp only [e3, Option.bind_some, if_neg hx]
   exact Ev.now _
theorem bne_self_b (o : Bool) : (o != o) = false := by cases o <;> rfl
theorem j2_ev {l : List Int} (hl : Bytes l) : Ev (fun k => laws_FnRecords.j2 k l) true := by
 obtain ⟨kind, b, e, hb⟩ := read_draw hl
 obtain ⟨q, q1, q2⟩ := read_both kind b hb
 refine Ev.step (f := fun k => laws_FnRecords.j2 (k + 1) l) (fun k => rfl) ?_
 simp only [laws_FnRecords.j2]
 refine Ev.bind e (Ev.bind q2 (Ev.bind q1 ?_))
 simp only [bne_self_b, bne_self_eq_false, Bool.false_eq_true, if_false]
 refine j3_ev hl kind b q.1 q.2 fun ho => read_data ?_
 have : q = (q.1, true) := by rw [← ho]
 rw [this] at q2
 exact q2
theorem FnRecords : laws_FnRecords.Pure := by
 intro l0 l1 hm0 hy0 hw0 hm1 hy1 hw1
 suffices h : Ev (fun k => laws_FnRecords.f k l0 l1) true from h.rounds
 have hl0 : Bytes l0 := bytes_of hw0
 have hl1 : Bytes l1 := bytes_of hw1
 unfold laws_FnRecords.f
 by_cases hbig : wrap64 ((l0.length : Int) + (l1.length : Int)) > 1048576
 · simp only [if_pos hbig]; exact Ev.now _
 · simp only [if_neg hbig]
   obtain ⟨a, b, c, d, at2, sd2, e1, ha, hd, _⟩ := rec_some hl0 (at_ := 0) (sd := 0) (n := 0) ⟨by omega, by omega⟩ (by omega)
   have draw : Ev (fun k => spec_DrawRecordText.f k l0) (a, b, c, d) := Ev.congr (fun k => rfl) (Ev.bind (Ev.congr (fun k => rfl) (Ev.bind e1 (Ev.now _))) (Ev.now _))
   refine Ev.bind draw ?_
   have ha2 : a.size ≤ 1048576 := by omega
   have hd2 : d.size ≤ 1048576 := by omega
   obtain ⟨g, g1, g2, g3⟩ := text_both a b c d ha2 hd2
   cases g with
   | false =>
    refine Ev.bind (Ev.congr (fun k => rfl) (Ev.bind g2 (Ev.now _)) : Ev (fun k => impl_RecordText.f k a b c d) ((⟨#[]⟩ : ByteArray), false)) (Ev.bind (Ev.congr (fun k => rfl) (Ev.bind g1 (Ev.now _)) : Ev (fun k => spec_RecordText.f k a b c d) ((⟨#[]⟩ : ByteArray), false)) ?_)
    simp only [bne_self_b, Bool.false_eq_true, if_false, if_true]
    refine Ev.bind g2 ?_
    simp only [bne_self_b]
    refine Ev.step (f := fun k => laws_FnRecords.j0 (k + 1) l1 (⟨#[]⟩ : ByteArray) false false a b c d) (fun k => rfl) ?_
    simp only [laws_FnRecords.j0, Bool.false_eq_true, if_false]
    exact j2_ev hl1
   | true =>
    obtain ⟨t1, t2⟩ := g3 rfl
    have r2 : Ev (fun k => impl_RecordText.f k a b c d) (rtext a b c d, true) := by
     refine Ev.congr (fun k => rfl) (Ev.bind g2 ?_)
     simp only [if_true, t2, Option.bind_some]
     exact Ev.now _
    have r1 : Ev (fun k => spec_RecordText.f k a b c d) (rtext a b c d, true) := Ev.congr (fun k => rfl) (Ev.bind g1 (Ev.bind t1 (Ev.now _)))
    refine Ev.bind r2 (Ev.bind r1 ?_)
    simp only [bne_self_b, Bool.false_eq_true, if_false, if_true]
    refine Ev.bind g2 ?_
    simp only [bne_self_b]
    obtain ⟨x, x1, x2⟩ := good_bytes b d a c ha2 hd2 g2
    obtain ⟨r, s1, s2⟩ := target_both a b c d ha2 hd2
    refine Ev.step (f := fun k => laws_FnRecords.j0 (k + 1) l1 (rtext a b c d) true false a b c d) (fun k => rfl) ?_
    simp only [laws_FnRecords.j0, Bool.false_eq_true, if_false, if_true]
    refine Ev.bind (rec_back a b c d ha2 hd2 g2) (Ev.bind x2 (Ev.bind (data_back hd2 x2) (Ev.bind s2 (Ev.bind s1 ?_))))
    simp only [bne_self_b, bne_self_eq_false, beq_self_eq_true, Bool.not_true, Bool.or_self, Bool.false_eq_true, if_false, if_true]
    refine Ev.step (f := fun k => laws_FnRecords.j1 (k + 1) l1 false) (fun k => rfl) ?_
    simp only [laws_FnRecords.j1, Bool.false_eq_true, if_false]
    exact j2_ev hl1
end Go.Proofs.YtiegkjimpclmaaaGreatDoor.Pure
namespace Go.Proofs.YtiegkjimpclmaaaGreatDoor.fnRecords
open Go.ChangeShapes Go.WideShapes Go.ChangeAt Go.RowKit
open Go.ChangeMaps (open_string shut_string)
set_option linter.unusedVariables false
theorem own : ownKnob Tryz.prog.godebug = none := by kernel_rfl
theorem laidOut : laidOutB Tryz.prog = true := by kernel_rfl
def IsRow (k : IntKind) (w : World) (a : Option Addr) (len cap : Nat) (zs : List Int) : Prop :=
  (a = none ∧ len = 0 ∧ cap = 0 ∧ zs = []) ∨
  ∃ x, a = some x ∧ len ≤ cap ∧ cap ≤ maxLen ∧ zs.length = cap ∧ (∀ i, i < zs.length → w.cell? (x.add i) = some (.int k (zs.getD i 0))) ∧ ∀ n ∈ zs, (Lit.int k n).wf = true
noncomputable def low : Nat := (World.holding Tryz.prog default ⟨#[], #[], []⟩).heap.size
noncomputable def laidWorld (os : Os) : World :=
  { World.holding Tryz.prog os ⟨#[.cells #[.string { data := #[118, 97, 108, 117, 101, 32, 111, 117, 116, 32, 111, 102, 32, 114, 97, 110, 103, 101] }] 233, .cells #[.string { data := #[105, 110, 118, 97, 108, 105, 100, 32, 115, 121, 110, 116, 97, 120] }] 233], #[], []⟩ with heap := ((((((((World.holding Tryz.prog os ⟨#[.cells #[.string { data := #[118, 97, 108, 117, 101, 32, 111, 117, 116, 32, 111, 102, 32, 114, 97, 110, 103, 101] }] 233, .cells #[.string { data := #[105, 110, 118, 97, 108, 105, 100, 32, 115, 121, 110, 116, 97, 120] }] 233], #[], []⟩).heap.modify 6 fun
      | .cells _ t frozen => .cells #[.int .u8 0, .int .u8 1, .int .u8 28, .int .u8 2, .int .u8 29, .int .u8 14, .int .u8 24, .int .u8 3, .int .u8 30, .int .u8 22, .int .u8 20, .int .u8 15, .int .u8 25, .int .u8 17, .int .u8 4, .int .u8 8, .int .u8 31, .int .u8 27, .int .u8 13, .int .u8 23, .int .u8 21, .int .u8 19, .int .u8 16, .int .u8 7, .int .u8 26, .int .u8 12, .int .u8 18, .int .u8 6, .int .u8 11, .int .u8 5, .int .u8 10, .int .u8 9] t frozen
      | o => o).modify 7 fun
      | .cells _ t frozen => .cells #[.int .u8 0, .int .u8 1, .int .u8 56, .int .u8 2, .int .u8 57, .int .u8 49, .int .u8 28, .int .u8 3, .int .u8 61, .int .u8 58, .int .u8 42, .int .u8 50, .int .u8 38, .int .u8 29, .int .u8 17, .int .u8 4, .int .u8 62, .int .u8 47, .int .u8 59, .int .u8 36, .int .u8 45, .int .u8 43, .int .u8 51, .int .u8 22, .int .u8 53, .int .u8 39, .int .u8 33, .int .u8 30, .int .u8 24, .int .u8 18, .int .u8 12, .int .u8 5, .int .u8 63, .int .u8 55, .int .u8 48, .int .u8 27, .int .u8 60, .int .u8 41, .int .u8 37, .int .u8 16, .int .u8 46, .int .u8 35, .int .u8 44, .int .u8 21, .int .u8 52, .int .u8 32, .int .u8 23, .int .u8 11, .int .u8 54, .int .u8 26, .int .u8 40, .int .u8 15, .int .u8 34, .int .u8 20, .int .u8 31, .int .u8 10, .int .u8 25, .int .u8 14, .int .u8 19, .int .u8 9, .int .u8 13, .int .u8 8, .int .u8 7, .int .u8 6] t frozen
      | o => o).modify 3 fun
      | .cells _ t frozen => .cells #[.int .u64 1, .int .u64 10, .int .u64 100, .int .u64 1000, .int .u64 10000, .int .u64 100000, .int .u64 1000000, .int .u64 10000000, .int .u64 100000000, .int .u64 1000000000, .int .u64 10000000000, .int .u64 100000000000, .int .u64 1000000000000, .int .u64 10000000000000, .int .u64 100000000000000, .int .u64 1000000000000000, .int .u64 10000000000000000, .int .u64 100000000000000000, .int .u64 1000000000000000000, .int .u64 10000000000000000000] t frozen
      | o => o).modify 5 fun
      | .cells _ t frozen => .cells #[.int .u8 128, .int .u8 191, .int .u8 160, .int .u8 191, .int .u8 128, .int .u8 159, .int .u8 144, .int .u8 191, .int .u8 128, .int .u8 143, .int .u8 0, .int .u8 0, .int .u8 0, .int .u8 0, .int .u8 0, .int .u8 0, .int .u8 0, .int .u8 0, .int .u8 0, .int .u8 0, .int .u8 0, .int .u8 0, .int .u8 0, .int .u8 0, .int .u8 0, .int .u8 0, .int .u8 0, .int .u8 0, .int .u8 0, .int .u8 0, .int .u8 0, .int .u8 0] t frozen
      | o => o).modify 2 fun
      | .cells _ t frozen => .cells #[.iface 231 (.pointer (some ⟨low, 0, none⟩))] t frozen
      | o => o).modify 1 fun
      | .cells _ t frozen => .cells #[.iface 231 (.pointer (some ⟨low + 1, 0, none⟩))] t frozen
      | o => o).modify 4 fun
      | .cells _ t frozen => .cells #[.int .u8 240, .int .u8 240, .int .u8 240, .int .u8 240, .int .u8 240, .int .u8 240, .int .u8 240, .int .u8 240, .int .u8 240, .int .u8 240, .int .u8 240, .int .u8 240, .int .u8 240, .int .u8 240, .int .u8 240, .int .u8 240, .int .u8 240, .int .u8 240, .int .u8 240, .int .u8 240, .int .u8 240, .int .u8 240, .int .u8 240, .int .u8 240, .int .u8 240, .int .u8 240, .int .u8 240, .int .u8 240, .int .u8 240, .int .u8 240, .int .u8 240, .int .u8 240, .int .u8 240, .int .u8 240, .int .u8 240, .int .u8 240, .int .u8 240, .int .u8 240, .int .u8 240, .int .u8 240, .int .u8 240, .int .u8 240, .int .u8 240, .int .u8 240, .int .u8 240, .int .u8 240, .int .u8 240, .int .u8 240, .int .u8 240, .int .u8 240, .int .u8 240, .int .u8 240, .int .u8 240, .int .u8 240, .int .u8 240, .int .u8 240, .int .u8 240, .int .u8 240, .int .u8 240, .int .u8 240, .int .u8 240, .int .u8 240, .int .u8 240, .int .u8 240, .int .u8 240, .int .u8 240, .int .u8 240, .int .u8 240, .int .u8 240, .int .u8 240, .int .u8 240, .int .u8 240, .int .u8 240, .int .u8 240, .int .u8 240, .int .u8 240, .int .u8 240, .int .u8 240, .int .u8 240, .int .u8 240, .int .u8 240, .int .u8 240, .int .u8 240, .int .u8 240, .int .u8 240, .int .u8 240, .int .u8 240, .int .u8 240, .int .u8 240, .int .u8 240, .int .u8 240, .int .u8 240, .int .u8 240, .int .u8 240, .int .u8 240, .int .u8 240, .int .u8 240, .int .u8 240, .int .u8 240, .int .u8 240, .int .u8 240, .int .u8 240, .int .u8 240, .int .u8 240, .int .u8 240, .int .u8 240, .int .u8 240, .int .u8 240, .int .u8 240, .int .u8 240, .int .u8 240, .int .u8 240, .int .u8 240, .int .u8 240, .int .u8 240, .int .u8 240, .int .u8 240, .int .u8 240, .int .u8 240, .int .u8 240, .int .u8 240, .int .u8 240, .int .u8 240, .int .u8 240, .int .u8 240, .int .u8 240, .int .u8 240, .int .u8 240, .int .u8 241, .int .u8 241, .int .u8 241, .int .u8 241, .int .u8 241, .int .u8 241, .int .u8 241, .int .u8 241, .int .u8 241, .int .u8 241, .int .u8 241, .int .u8 241, .int .u8 241, .int .u8 241, .int .u8 241, .int .u8 241, .int .u8 241, .int .u8 241, .int .u8 241, .int .u8 241, .int .u8 241, .int .u8 241, .int .u8 241, .int .u8 241, .int .u8 241, .int .u8 241, .int .u8 241, .int .u8 241, .int .u8 241, .int .u8 241, .int .u8 241, .int .u8 241, .int .u8 241, .int .u8 241, .int .u8 241, .int .u8 241, .int .u8 241, .int .u8 241, .int .u8 241, .int .u8 241, .int .u8 241, .int .u8 241, .int .u8 241, .int .u8 241, .int .u8 241, .int .u8 241, .int .u8 241, .int .u8 241, .int .u8 241, .int .u8 241, .int .u8 241, .int .u8 241, .int .u8 241, .int .u8 241, .int .u8 241, .int .u8 241, .int .u8 241, .int .u8 241, .int .u8 241, .int .u8 241, .int .u8 241, .int .u8 241, .int .u8 241, .int .u8 241, .int .u8 241, .int .u8 241, .int .u8 2, .int .u8 2, .int .u8 2, .int .u8 2, .int .u8 2, .int .u8 2, .int .u8 2, .int .u8 2, .int .u8 2, .int .u8 2, .int .u8 2, .int .u8 2, .int .u8 2, .int .u8 2, .int .u8 2, .int .u8 2, .int .u8 2, .int .u8 2, .int .u8 2, .int .u8 2, .int .u8 2, .int .u8 2, .int .u8 2, .int .u8 2, .int .u8 2, .int .u8 2, .int .u8 2, .int .u8 2, .int .u8 2, .int .u8 2, .int .u8 19, .int .u8 3, .int .u8 3, .int .u8 3, .int .u8 3, .int .u8 3, .int .u8 3, .int .u8 3, .int .u8 3, .int .u8 3, .int .u8 3, .int .u8 3, .int .u8 3, .int .u8 35, .int .u8 3, .int .u8 3, .int .u8 52, .int .u8 4, .int .u8 4, .int .u8 4, .int .u8 68, .int .u8 241, .int .u8 241, .int .u8 241, .int .u8 241, .int .u8 241, .int .u8 241, .int .u8 241, .int .u8 241, .int .u8 241, .int .u8 241, .int .u8 241] t frozen
      | o => o) }
set_option maxRecDepth 100000 in
theorem laid_met (os : Os) : laidMet Tryz.prog Rows.fnRecordsRow.laid ((laidWorld os).forCall (fun _ _ => 0) ⟨#[], #[.slice none 0 0, .slice none 0 0], []⟩).memory :=
  laidMet_of_run' 8 (by kernel_rfl) (by kernel_rfl)
theorem ptr_row (u : TypeId) (h : Tryz.prog.typeName? 3 u = some "*errors.errorString") : u = 231 :=
  typeName_ptr_named (nm := "errors.errorString") (by rw [show "*" ++ "errors.errorString" = "*errors.errorString" by decide]; kernel_rfl) (by kernel_rfl) (by decide) u (by rw [show "*" ++ "errors.errorString" = "*errors.errorString" by decide]; exact h)
theorem vars_of {W : World} (hL : laidMet Tryz.prog Rows.fnRecordsRow.laid W) : P.Vars W := by
  obtain ⟨_, _, hs, -, -, -⟩ := laid_sentinel (n := "strconv.ErrSyntax") (g := 1) hL.tail.tail.tail.tail.tail (by kernel_rfl) (by kernel_rfl) Tryz.underlying104 ptr_row Tryz.underlying231 Tryz.underlying233 rfl rfl Tryz.underlying9 (by kernel_rfl) (by kernel_rfl)
  obtain ⟨_, _, hr, -, -, -⟩ := laid_sentinel (n := "strconv.ErrRange") (g := 2) hL.tail.tail.tail.tail (by kernel_rfl) (by kernel_rfl) Tryz.underlying104 ptr_row Tryz.underlying231 Tryz.underlying233 rfl rfl Tryz.underlying9 (by kernel_rfl) (by kernel_rfl)
  have hp : laidMet Tryz.prog (("internal/strconv.uint64pow10", Lib.tabData .u64 Lib.pow10Tab) :: _) W := hL.tail.tail
  have ht := Lib.tabIs_of_head (g := 3) (by kernel_rfl) (by kernel_rfl) Tryz.underlying221 Tryz.underlying115 (by kernel_rfl) (by kernel_rfl) hp
  exact ⟨⟨_, _, hs⟩, ⟨_, _, hr⟩, ht⟩
set_option maxRecDepth 100000 in
theorem contract (H : Type) (enc : TypeId × Value → H) (W : World) (base : Nat) (args : Array Value) (ds gs : List (DataW H)) (before : List MemPlace)
    (hval0 : ∀ (j : Nat) t v, Tryz.f6.params[j]? = some t → args[j]? = some v → Value.okWide Tryz.prog W .any base t v)
    (hW : DataW.Whole enc Tryz.prog Tryz.f6.params.toList Rows.fnRecordsSpec.vars false W args.toList ds gs before)
    (hsz0 : (DataW.weightsEach Tryz.prog (Tryz.f6.params.toList ++ Rows.fnRecordsSpec.plain.varTypes Tryz.prog) (ds ++ gs)).all (· ≤ reachBytes) = true) (hL : laidMet Tryz.prog Rows.fnRecordsRow.laid W) :
    Calls Tryz.prog 6 args W fun e W' => ∃ v, e = .returned v ∧ Rows.fnRecordsSpec.post enc Tryz.prog Tryz.f6 false true false false W args v W' := by
  have hsz : (DataW.weightsEach Tryz.prog (Tryz.f6.params.toList ++ Rows.fnRecordsSpec.plain.varTypes Tryz.prog) (ds ++ gs)).all (· ≤ reachBytes) = true := hsz0
  have hval : ∀ (j : Nat) t v, Tryz.f6.params[j]? = some t → args[j]? = some v → Value.okWide Tryz.prog W .any base t v := hval0
  have hW' := hW
  obtain ⟨p, q, hA0, hV, rfl, hfz, hnd⟩ := hW
  have hA : DataW.TrodAll enc Tryz.prog W 0 (fun _ => true) true Tryz.f6.params.toList args.toList ds p := hA0
  rw [Tryz.params6] at hA hval hsz
  obtain ⟨v0, vs0, d0, ds0, p0, q0, hargs, rfl, rfl, h0, r0⟩ := trodAll_cons hA
  obtain ⟨v1, vs1, d1, ds1, p1, q1, rfl, rfl, rfl, h1, r1⟩ := trodAll_cons r0
  obtain ⟨rfl, rfl, rfl⟩ := trodAll_nil r1
  obtain rfl : args = #[v0, v1] := by cases args; simp_all
  obtain ⟨rfl, rfl⟩ := trodVars_none hV
  obtain ⟨a0, len0, cap0, rfl⟩ := okWide_slice Tryz.underlying43 (hval 0 43 v0 rfl rfl)
  have k0 := h0
  have lt0 : ∀ x ∈ p0, x.block < W.heap.size := by obtain ⟨m, hm⟩ := k0; exact DataW.trod_lt m _ _ _ hm
  obtain ⟨z0, w0⟩ : ∃ zs, IsRow .u8 W a0 len0 cap0 zs := by
    obtain ⟨fuel, hf⟩ := h0
    rcases open_ints Tryz.underlying43 Tryz.underlying5 (by kernel_rfl) hf with ⟨hcs, _⟩ | ⟨x, l, c, zs, hcs, _, hl, hm, hz, _, hcell, hwz⟩
    · simp [Value.cells] at hcs
      obtain ⟨rfl, rfl, rfl⟩ := hcs
      exact ⟨[], .inl ⟨rfl, rfl, rfl, rfl⟩⟩
    · simp [Value.cells] at hcs
      obtain ⟨rfl, rfl, rfl⟩ := hcs
      exact ⟨zs, .inr ⟨_, rfl, hl, hm, by simpa using hz, hcell, hwz⟩⟩
  have y0 : len0 * 1 ≤ 140737488351232 := Go.Proofs.YtiegkjimpclmaaaGreatDoorW.PrintWords.sized_ints hsz (j := 0) (t := 43) rfl rfl Tryz.underlying43 Tryz.underlying5 (by kernel_rfl) (by kernel_rfl) h0
  obtain ⟨a1, len1, cap1, rfl⟩ := okWide_slice Tryz.underlying43 (hval 1 43 v1 rfl rfl)
  have k1 := h1
  have lt1 : ∀ x ∈ p1, x.block < W.heap.size := by obtain ⟨m, hm⟩ := k1; exact DataW.trod_lt m _ _ _ hm
  obtain ⟨z1, w1⟩ : ∃ zs, IsRow .u8 W a1 len1 cap1 zs := by
    obtain ⟨fuel, hf⟩ := h1
    rcases open_ints Tryz.underlying43 Tryz.underlying5 (by kernel_rfl) hf with ⟨hcs, _⟩ | ⟨x, l, c, zs, hcs, _, hl, hm, hz, _, hcell, hwz⟩
    · simp [Value.cells] at hcs
      obtain ⟨rfl, rfl, rfl⟩ := hcs
      exact ⟨[], .inl ⟨rfl, rfl, rfl, rfl⟩⟩
    · simp [Value.cells] at hcs
      obtain ⟨rfl, rfl, rfl⟩ := hcs
      exact ⟨zs, .inr ⟨_, rfl, hl, hm, by simpa using hz, hcell, hwz⟩⟩
  have y1 : len1 * 1 ≤ 140737488351232 := Go.Proofs.YtiegkjimpclmaaaGreatDoorW.PrintWords.sized_ints hsz (j := 1) (t := 43) rfl rfl Tryz.underlying43 Tryz.underlying5 (by kernel_rfl) (by kernel_rfl) h1
  clear hA0 hval0 hsz0 hsz
  refine (P.laws_FnRecords.walk Pure.FnRecords a0 len0 cap0 z0 a1 len1 cap1 z1 W w0 y0 w1 y1 (vars_of hL)).mono fun e W' ⟨he, bel⟩ => ?_
  subst he
  exact ⟨_, rfl, _, _, _, [], _, [], hW', trodAll_mk1 (shut_bool Tryz.underlying4 _), (trodAll_cons_mk (Below.trod laidOut (by kernel_rfl) (of_decide_eq_true (by kernel_rfl)) k0 bel lt0) (trodAll_cons_mk (Below.trod laidOut (by kernel_rfl) (of_decide_eq_true (by kernel_rfl)) k1 bel lt1) trodAll_mk0)), rfl, bel.frame _, fun h => by cases h⟩
set_option maxRecDepth 100000 in
theorem reads (os : Os) {H : Type} (enc : TypeId × Value → H) : ∃ places, DataW.whole enc Tryz.prog ((laidWorld os).forCall (fun _ _ => 0) ⟨#[], #[.slice none 0 0, .slice none 0 0], []⟩).memory Tryz.f6.params.toList Rows.fnRecordsSpec.vars false (#[.slice none 0 0, .slice none 0 0] : Array Value).toList 8 = some ([.nil, .nil], [], places) :=
  ⟨[], by kernel_rfl⟩
set_option maxRecDepth 100000 in
theorem lifted (os : Os) (started : os.Started) (H : Type) (enc : TypeId × Value → H) (F : Stop.Interp) :
    ReturnsInHanded {} Tryz.checked os 6 .any ((OpenSpec.ofChange Rows.fnRecordsSpec).preRow enc Tryz.prog Tryz.f6 Rows.fnRecordsRow.domain false Rows.fnRecordsRow.laid) (((OpenSpec.ofChange Rows.fnRecordsSpec).at F).post enc Tryz.prog Tryz.f6 false true false false) := by
  obtain ⟨places, hx⟩ := reads os enc
  refine returnsInHanded_of_row (C := Tryz.checked) (s := OpenSpec.ofChange Rows.fnRecordsSpec) own started (by kernel_rfl) Tryz.func6
    (witness_row_at (enc := enc) (C := Tryz.checked) false (laidWorld os) #[.slice none 0 0, .slice none 0 0] rfl (by kernel_rfl) (by kernel_rfl) (by kernel_rfl)
      (OpenSpec.preRow_of_cond 8 hx (by kernel_rfl) (fun k hk => by cases hk) (by kernel_rfl) (laid_met os))) ?_
  intro W base args ds gs before hval hW _ _ hsz hL _ _
  exact contract H enc W base args ds gs before hval hW hsz hL
theorem said : Rows.FnRecordsSaid :=
  OpenClaim.holds_of_cond 6 Tryz.f6 rfl rfl rfl rfl rfl rfl rfl ⟨rfl, rfl, rfl, rfl, rfl⟩ rfl rfl rfl rfl rfl (by kernel_rfl) Tryz.func6 (by kernel_rfl)
    (of_decide_eq_true (by kernel_rfl)) (by unfold Func.isWrapper; first | (rw [if_pos (by decide +kernel)]; kernel_rfl) | (rw [if_neg (by decide +kernel)]; exact ⟨rfl, rfl⟩))
    (fun os started H enc _ F => by rw [OpenClaim.pre_eq_preRow]; exact lifted os started H enc F)
theorem wants : Tryz.f6.params.toList.all (fun t => Tryz.prog.wantsStandIn t == false) = true := by kernel_rfl
theorem plain (f : FuncId) (fn : Func) (hf : Tryz.pinned.checked.prog.funcNamed "loop.example/g00300/laws.FnRecords" = some f) (hfn : Tryz.pinned.checked.prog.funcs[f]? = some fn) :
    true = Tryz.pinned.checked.prog.looks [] ∧ ∀ (j : Nat) t, fn.params[j]? = some t → Tryz.pinned.checked.prog.wantsStandIn t = false := by
  obtain rfl : f = 6 := Option.some.inj ((show Tryz.prog.funcNamed "loop.example/g00300/laws.FnRecords" = some 6 by kernel_rfl).symm.trans hf) |>.symm
  obtain rfl : fn = Tryz.f6 := (Option.some.inj (Tryz.func6.symm.trans hfn)).symm
  refine ⟨by kernel_rfl, fun j t ht => ?_⟩
  exact eq_of_beq (List.all_eq_true.1 wants t (Array.mem_toList_iff.2 (Array.mem_of_getElem? ht)))
theorem proved : Rows.FnRecordsCardSaid :=
  Claim7.holds_tied_plain_at .later [] _ _ _ _ said (fun _ h => by cases h) (by kernel_rfl) (fun _ h => by cases h) fnRecords_row_tie rfl ⟨rfl, rfl⟩ (by kernel_rfl) rfl plain (by kernel_rfl)
#print axioms proved
end Go.Proofs.YtiegkjimpclmaaaGreatDoor.fnRecords
namespace Go.Proofs.YtiegkjimpclmaaaGreatDoor
theorem fnRecords_holds : Rows.FnRecordsCardSaid := fnRecords.proved
end Go.Proofs.YtiegkjimpclmaaaGreatDoor
