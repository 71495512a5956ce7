/- FnPacked: part 28 of 28 of my texts for this claim, joined; the theorem stands in the last. Conditions: none beyond the statement's. -/
import Derived.Test.YtomcfhbmdoomlaaDoorMFnPackedx22
import Derived.Test.YtomcfhbmdoomlaaDoorMFnPackedx23
import Derived.Test.YtomcfhbmdoomlaaDoorMFnPackedx25
import Derived.Test.YtomcfhbmdoomlaaDoorMFnPackedx26
import Derived.Test.YtomcfhbmdoomlaaDoorMFnPackedx19
import Derived.SizedLaws
import Derived.ChangeSlices
import Derived.Test.YtomcfhbmdoomlaaDoorCards
import Derived.Test.YtomcfhbmdoomlaaDoorTie
import Derived.Deep.DeepHandedRow
import Derived.WalkKit
import Derived.ProofKit
import Derived.OpenShut
import Derived.ShutString
import Derived.ChangeOld
import Derived.Below
-- PureFnPacked
/- 'laws.FnPacked' returns true at every bytes. Conditions: the bytes are bytes. -/
namespace Go.Proofs.YtomcfhbmdoomlaaDoor.Pure
open Go.RowKit Go.Proofs.YtomcfhbmdoomlaaDoor.P Go.Proofs.YtomcfhbmdoomlaaDoorW.PrintWords Go.Proofs.YtomcfhbmdoomlaaDoorW.PrintLast
set_option linter.unusedVariables false
set_option linter.unusedSimpArgs false
/-- Names that stand one behind the other. -/
inductive Chain (t : ByteArray) : Nat → List ByteArray → Nat → Prop
  | nil (a : Nat) : Chain t a [] a
  | cons (a b e : Nat) (s : ByteArray) (l : List ByteArray) (pl : List Int) (h : Reads t a a ((labelsL s.data.toList).map mkB) pl b) (hg : goodL s.data.toList = true) (hr : Chain t b l e) : Chain t a (s :: l) e
theorem Chain.app {t : ByteArray} {a : Nat} {l : List ByteArray} {e : Nat} (h : Chain t a l e) (x : ByteArray) : Chain (t ++ x) a l e := by
  induction h with
  | nil a => exact .nil a
  | cons a b e s l pl h hg hr ih => exact .cons a b e s l pl (h.app x) hg ih
theorem Chain.snoc {t : ByteArray} {a : Nat} {l : List ByteArray} {e : Nat} (h : Chain t a l e) (s : ByteArray) (pl : List Int) (b : Nat) (hs : Reads t e e ((labelsL s.data.toList).map mkB) pl b) (hg : goodL s.data.toList = true) : Chain t a (l ++ [s]) b := by
  induction h with
  | nil a => exact .cons a b b s [] pl hs hg (.nil b)
  | cons a b' e s' l pl' h hg' hr ih => exact .cons a b' _ s' _ pl' h hg' (ih hs)
/-- What packing makes: the names stand in it, and no more bytes than without pointers. -/
theorem packed_chain (l : List ByteArray) (hl : l.length ≤ 20) (hg : ∀ x ∈ l, goodL x.data.toList = true) : ∀ (m i : Nat) (b : ByteArray) (r : ByteArray × Bool), i + m = l.length → b.size ≤ 600 → Chain b 0 (l.take i) b.size →
    Ev (fun k => impl_packed.l0 k b l (l.length : Int) (i : Int)) r → r.2 = true → Chain r.1 0 l r.1.size ∧ r.1.size ≤ 600 ∧ r.1.size ≤ b.size + ((l.drop i).map fun x => if x.size = 0 then 1 else x.size + 2).sum
  | 0, i, b, r, him, hb, hc, he, hr => by
    have e : r = (b, true) := Ev.unique he (Ev.step (f := fun _ => some (b, true)) (fun k => by
      show impl_packed.l0 (k + 1) b l (l.length : Int) (i : Int) = _
      unfold impl_packed.l0
      rw [if_neg (by omega)]) (Ev.now _))
    rw [e]
    rw [List.take_of_length_le (by omega)] at hc
    exact ⟨hc, hb, by rw [List.drop_of_length_le (by omega)]; simp⟩
  | m + 1, i, b, r, him, hb, hc, he, hr => by
    have hi : i < l.length := by omega
    have hgi := hg _ (List.getElem_mem hi)
    obtain ⟨q, _, e2, y, pl, h1, h2, h3⟩ := put_laid b l[i] hb hgi
    have ei : ∀ k, impl_packed.l0 (k + 1) b l (l.length : Int) (i : Int) = (impl_putName.f k b l[i]).bind fun t => (if (t.size : Int) > 600 then (some ((⟨#[]⟩ : ByteArray), false)) else (impl_packed.l0 k t l (l.length : Int) ((i + 1 : Nat) : Int))) := fun k => by
      conv => lhs; unfold impl_packed.l0
      rw [if_pos (by omega), if_pos (by omega), if_pos (by omega), pk_rd l i hi, w64n (by omega)]
    have hq : Ev (fun k => if (q.size : Int) > 600 then (some ((⟨#[]⟩ : ByteArray), false)) else (impl_packed.l0 k q l (l.length : Int) ((i + 1 : Nat) : Int))) r := by
      obtain ⟨K1, he⟩ := he
      obtain ⟨K2, e2⟩ := e2
      refine ⟨max K1 K2, fun k hk => ?_⟩
      have h3 : impl_packed.l0 (k + 1) b l (l.length : Int) (i : Int) = some r := he (k + 1) (by omega)
      have h4 : impl_putName.f k b l[i] = some q := e2 k (by omega)
      rw [ei k, h4] at h3
      exact h3
    by_cases h6 : (q.size : Int) > 600
    · simp only [if_pos h6] at hq
      rw [Ev.unique hq (Ev.now _)] at hr
      cases hr
    · simp only [if_neg h6] at hq
      have hc2 : Chain q 0 (l.take (i + 1)) q.size := by
        have := (hc.app y).snoc l[i] pl q.size (by rw [← h1]; exact h2) hgi
        rw [← h1, ← List.take_append_getElem hi] at *
        exact this
      obtain ⟨c1, c2, c3⟩ := packed_chain l hl hg m (i + 1) q r (by omega) (by omega) hc2 hq hr
      refine ⟨c1, c2, ?_⟩
      rw [List.drop_eq_getElem_cons hi, List.map_cons, List.sum_cons]
      have : q.size = b.size + y.size := by rw [h1, ByteArray.size_append]
      split at h3 <;> split <;> omega
/-- Names that stand one behind the other are read again. -/
theorem unpack_chain (t : ByteArray) (ht : t.size ≤ 600) (n : Nat) (hn : n ≤ 20) : ∀ (l : List ByteArray) (a i : Nat) (acc : List ByteArray), Chain t a l t.size → i + l.length = n → acc.length = i →
    Ev (fun k => impl_unpacked.l0 k t acc (a : Int) (n : Int) (i : Int)) (acc ++ l, true)
  | [], a, i, acc, h, hi, ha => by
    have e : a = t.size := by
      generalize hz : t.size = z at h
      cases h
      rfl
    subst e
    refine Ev.step (f := fun _ => some (acc, true)) (fun k => ?_) (by rw [List.append_nil]; exact Ev.now _)
    show impl_unpacked.l0 (k + 1) t acc (t.size : Int) (n : Int) (i : Int) = _
    conv => lhs; unfold impl_unpacked.l0
    rw [if_neg (by simp at hi; omega)]
    simp
  | s :: l, a, i, acc, h, hi, ha => by
    have hh : ∃ b pl, Reads t a a ((labelsL s.data.toList).map mkB) pl b ∧ goodL s.data.toList = true ∧ Chain t b l t.size := by
      generalize hz : t.size = z at h
      cases h with
      | cons _ b _ _ _ pl h hg hr => exact ⟨b, pl, h, hg, by rw [hz] at *; exact hr⟩
    obtain ⟨b, pl, h, hg, hr⟩ := hh
    rw [List.length_cons] at hi
    have hlab := good_all hg
    have hnb := name_back hg
    have g := reads_take t ht h [] [] (-1) (by simpa using hlab.1) (by simp)
    rw [if_pos (by decide), if_pos (by decide), List.nil_append, List.nil_append, hnb] at g
    have ih := unpack_chain t ht n hn l b (i + 1) (acc ++ [s]) hr (by omega) (by simp; exact ha)
    rw [List.append_assoc, List.singleton_append] at ih
    refine Ev.step (f := fun k => (impl_takeName.f k t (a : Int)).bind fun bt240 => (if bt240.2.2.2 = true then (if acc.length < 8796093022208 then (impl_unpacked.l0 k t (acc ++ [bt240.1]) bt240.2.2.1 (n : Int) ((i + 1 : Nat) : Int)) else (none)) else (some (([] : List ByteArray), false)))) (fun k => ?_) (Ev.bind (a := (s, pl, (b : Int), true)) (Ev.congr (fun k => rfl) g) ?_)
    · show impl_unpacked.l0 (k + 1) t acc (a : Int) (n : Int) (i : Int) = _
      conv => lhs; unfold impl_unpacked.l0
      rw [if_pos (by omega), w64n (by omega)]
    · simp only [if_true, if_pos (show acc.length < 8796093022208 by omega)]
      exact ih
theorem unpacked_good (s : ByteArray) (hs : s.size ≤ 600) (n : Int) : ∀ (k a : Nat) (i : Int) (acc : List ByteArray) (q : List ByteArray × Bool), impl_unpacked.l0 k s acc (a : Int) n i = some q → (∀ z ∈ acc, goodL z.data.toList = true) → ∀ z ∈ q.1, goodL z.data.toList = true
  | 0, a, i, acc, q, h, hg => by simp [impl_unpacked.l0] at h
  | k + 1, a, i, acc, q, h, hg => by
    unfold impl_unpacked.l0 at h
    by_cases c1 : i < n
    · rw [if_pos c1] at h
      obtain ⟨t, ht, h⟩ := Option.bind_eq_some_iff.mp h
      by_cases c2 : t.2.2.2 = true
      · rw [if_pos c2] at h
        by_cases c3 : acc.length < 8796093022208
        · rw [if_pos c3] at h
          obtain ⟨ls, pl, en, t1, t2, t3, t4, t5⟩ := taken s hs ht c2
          rw [t5] at h
          refine unpacked_good s hs n k en _ _ q h fun z hz => ?_
          rcases List.mem_append.1 hz with hz | hz
          · exact hg z hz
          · rw [List.mem_singleton.1 hz]
            exact (labels_back t3).1
        · rw [if_neg c3] at h; cases h
      · rw [if_neg c2] at h
        obtain rfl := Option.some.inj h
        exact fun z hz => by cases hz
    · rw [if_neg c1] at h
      obtain rfl := Option.some.inj h
      exact hg
theorem unpack_good (s : ByteArray) (x : Int) (r : List ByteArray × Bool) (h : Ev (fun k => impl_UnpackNames.f k s x) r) : ∀ z ∈ r.1, goodL z.data.toList = true := by
  obtain ⟨K, h⟩ := h
  have h1 : impl_UnpackNames.f (K + 1) s x = some r := h (K + 1) (by omega)
  have e0 : impl_UnpackNames.j0 (K + 1) s x true = some ([], false) := rfl
  unfold impl_UnpackNames.f at h1
  by_cases c1 : (s.size : Int) > 600
  · rw [if_pos c1, e0] at h1
    obtain rfl := Option.some.inj h1
    exact fun z hz => by cases hz
  · rw [if_neg c1, within_eq, Option.bind_some] at h1
    by_cases c2 : 0 ≤ x ∧ x ≤ 20
    · rw [decide_eq_true c2] at h1
      replace h1 : ((impl_unpacked.f K s x).bind fun bt250 => (if bt250.2 = true then (some (bt250.1, true)) else (some (([] : List ByteArray), false)))) = some r := h1
      obtain ⟨q, hq, h1⟩ := Option.bind_eq_some_iff.mp h1
      have hall := unpacked_good s (by omega) x K 0 0 [] q hq (fun z hz => by cases hz)
      by_cases c3 : q.2 = true
      · rw [if_pos c3] at h1
        obtain rfl := Option.some.inj h1
        exact hall
      · rw [if_neg c3] at h1
        obtain rfl := Option.some.inj h1
        exact fun z hz => by cases hz
    · rw [decide_eq_false c2] at h1
      replace h1 : some (([] : List ByteArray), false) = some r := h1
      obtain rfl := Option.some.inj h1
      exact fun z hz => by cases hz
theorem sameT_ev (l : List ByteArray) (hl : l.length ≤ 100000) : Ev (fun k => laws_sameTexts.f k l l) true := by
  have loop : ∀ (m i : Nat), i + m = l.length → Ev (fun k => laws_sameTexts.l0 k l l (l.length : Int) (i : Int)) true := by
    intro m
    induction m with
    | zero =>
      intro i him
      refine Ev.step (f := fun _ => some true) (fun k => ?_) (Ev.now _)
      show laws_sameTexts.l0 (k + 1) l l (l.length : Int) (i : Int) = _
      unfold laws_sameTexts.l0
      rw [if_neg (by omega)]
    | succ m ih =>
      intro i him
      refine Ev.step (fun k => ?_) (ih (i + 1) (by omega))
      show laws_sameTexts.l0 (k + 1) l l (l.length : Int) (i : Int) = _
      conv => lhs; unfold laws_sameTexts.l0
      rw [if_pos (by omega), if_pos (by omega), if_pos (by omega), if_pos (by omega), if_pos rfl, w64n (by omega)]
  exact Ev.congr (fun k => by unfold laws_sameTexts.f; rw [if_pos rfl]; rfl) (loop l.length 0 (by omega))
theorem packed_names (l : List ByteArray) (hl : l.length ≤ 20) (hg : ∀ x ∈ l, goodL x.data.toList = true) : ∀ (m i : Nat), i + m = l.length → Ev (fun k => laws_FnPacked.l0 k l (l.length : Int) (i : Int)) true
  | 0, i, him => by
    refine Ev.step (f := fun _ => some true) (fun k => ?_) (Ev.now _)
    show laws_FnPacked.l0 (k + 1) l (l.length : Int) (i : Int) = _
    conv => lhs; unfold laws_FnPacked.l0
    rw [if_neg (by omega)]
  | m + 1, i, him => by
    have hi : i < l.length := by omega
    refine Ev.step (fun k => ?_) (packed_names l hl hg m (i + 1) (by omega))
    show laws_FnPacked.l0 (k + 1) l (l.length : Int) (i : Int) = _
    conv => lhs; unfold laws_FnPacked.l0
    rw [if_pos (by omega), if_pos (by omega), if_pos (by omega), pk_rd l i hi, w64n (by omega)]
    unfold impl_GoodName.f
    rw [hg _ (List.getElem_mem hi), Option.bind_some, if_pos rfl]
theorem packed_end (l1 : List Int) (hl1 : Bytes l1) : Ev (fun k => laws_FnPacked.j1 k l1) true := by
  obtain ⟨s, m, at2, sd2, e, hs, hm, hc⟩ := packed_some hl1 (at_ := 0) (sd := 0) (n := 0) ⟨by omega, by omega⟩ (by omega)
  have hd : ∃ x, Ev (fun k => spec_DrawUnpackNames.f k l1) (s, x) := by
    obtain ⟨o, at3, sd3, e3, hc3⟩ := one_some hl1 hc (by omega) (sd := sd2) 12
    by_cases ho : o = true
    · obtain ⟨j, at4, sd4, e4, _, _⟩ := pick_some hl1 hc3 (by omega) (sd := sd3) 3
      refine ⟨wrap64 (m + (wrap64 (j - 1))), Ev.congr (fun k => rfl) (Ev.bind e ?_)⟩
      simp only [e3, Option.bind_some, if_pos ho, e4]
      exact Ev.now _
    · refine ⟨m, Ev.congr (fun k => rfl) (Ev.bind e ?_)⟩
      simp only [e3, Option.bind_some, if_neg ho]
      exact Ev.now _
  obtain ⟨x, hd⟩ := hd
  obtain ⟨r, r1, r2, r3⟩ := unpacknames_both s x (by omega)
  refine Ev.step (fun k => rfl) (Ev.bind hd (Ev.bind r2 (Ev.bind r1 ?_)))
  simp only [bne_self_eq_false, Bool.false_eq_true, if_false]
  refine Ev.bind (sameT_ev r.1 (by omega)) ?_
  refine Ev.step (f := fun k => laws_FnPacked.l0 k r.1 (r.1.length : Int) 0) (fun k => rfl) ?_
  exact packed_names r.1 r3 (unpack_good s x r r2) r.1.length 0 (by omega)
theorem FnPacked : laws_FnPacked.Pure := by
  intro l0 l1 _ _ hw0 _ _ hw1
  suffices h : Ev (fun k => laws_FnPacked.f k l0 l1) true from h.rounds
  by_cases h : (wrap64 ((l0.length : Int) + (l1.length : Int))) > 1048576
  · exact Ev.congr (fun k => by unfold laws_FnPacked.f; rw [if_pos h]) (Ev.now true)
  · have hl0 := bytes_of hw0
    have hl1 := bytes_of hw1
    obtain ⟨l, at2, sd2, e, hn, hx, hc⟩ := names_some hl0 (at_ := 0) (sd := 0) (n := 0) ⟨by omega, by omega⟩ (by omega)
    have hd : Ev (fun k => spec_DrawPackNames.f k l0) l := Ev.congr (fun k => rfl) (Ev.bind e (Ev.now _))
    obtain ⟨r, r1, r2, r3, r4⟩ := pack_both l (fun x hx' => by have := hx x hx'; omega)
    have hend := packed_end l1 hl1
    refine Ev.congr (fun k => by unfold laws_FnPacked.f; rw [if_neg h]) (Ev.bind hd (Ev.bind r2 (Ev.bind r1 ?_)))
    simp only [bne_self_eq_false, Bool.false_eq_true, if_false]
    by_cases hr : r.2 = true
    · obtain ⟨h20, hg⟩ := r3 hr
      -- what packing made
      have hpk : Ev (fun k => impl_packed.l0 k (⟨#[]⟩ : ByteArray) l (l.length : Int) ((0 : Nat) : Int)) r := by
        obtain ⟨q, _, g2, g3, _⟩ := pack_loops l h20 (fun x hx' => by have := hx x hx'; omega) l.length 0 (⟨#[]⟩ : ByteArray) (by omega) (by show 0 ≤ 600; omega)
        rw [List.drop_zero] at g2
        have ha : (l.all fun x => goodL x.data.toList) = true := List.all_eq_true.2 hg
        have g4 : Ev (fun k => impl_PackNames.f k l) q := Ev.congr (f := fun k => (impl_packed.f k l).bind fun bt308 => some (bt308.1, bt308.2)) (fun k => by unfold impl_PackNames.f impl_areNames.f; rw [if_neg (by omega), Option.bind_some, if_pos ha]) (Ev.bind (a := q) (g2 hg) (Ev.now _))
        rw [Ev.unique r2 g4]
        exact g2 hg
      obtain ⟨c1, c2, c3⟩ := packed_chain l h20 hg l.length 0 (⟨#[]⟩ : ByteArray) r (by omega) (by show 0 ≤ 600; omega) (by rw [List.take_zero]; exact .nil _) hpk hr
      have hun : Ev (fun k => impl_UnpackNames.f k r.1 (l.length : Int)) (l, true) := by
        have g := unpack_chain r.1 c2 l.length h20 l 0 0 [] c1 (by omega) rfl
        refine Ev.congr (f := fun k => impl_UnpackNames.j0 k r.1 (l.length : Int) false) (fun k => ?_) (Ev.step (f := fun k => (impl_unpacked.f k r.1 (l.length : Int)).bind fun bt250 => (if bt250.2 = true then (some (bt250.1, true)) else (some (([] : List ByteArray), false)))) (fun k => rfl) (Ev.bind (a := (l, true)) g ?_))
        · unfold impl_UnpackNames.f
          rw [if_neg (by omega), within_eq, Option.bind_some, decide_eq_true (by omega)]
          rfl
        · simp only [if_true]
          exact Ev.now _
      obtain ⟨n', _, g2, _, g4⟩ := size_loops r.1 l h20 hg l.length 0 0 (by omega) (by omega)
      have hsz : Ev (fun k => impl_PackedSize.f k l) ((r.1.size : Int), (n' : Int), true) := by
        refine Ev.congr (fun k => rfl) (Ev.bind r2 ?_)
        simp only [if_pos hr]
        exact g4
      have hle : r.1.size ≤ n' := by
        rw [g2]
        exact c3
      refine Ev.step (f := fun k => (impl_UnpackNames.f k r.1 (l.length : Int)).bind fun bt542 => ((impl_PackedSize.f k l).bind fun bt546 => (if bt542.2 = true then ((laws_sameTexts.f k bt542.1 l).bind fun t549 => (if t549 = true then (if bt546.2.2 = true then (if bt546.1 = (r.1.size : Int) then (if bt546.1 > bt546.2.1 then (some false) else (laws_FnPacked.j1 k l1)) else (some false)) else (some false)) else (some false))) else (some false)))) (fun k => ?_) (Ev.bind hun (Ev.bind hsz ?_))
      · show (if (false = true) then some false else (if r.2 = true then _ else laws_FnPacked.j1 k _)) = _
        rw [if_neg (by simp), if_pos hr]
      · simp only [if_true]
        refine Ev.bind (sameT_ev l (by omega)) ?_
        simp only [if_true, if_neg (show ¬ (r.1.size : Int) > (n' : Int) by omega)]
        exact hend
    · refine Ev.step (f := fun k => laws_FnPacked.j1 k l1) (fun k => ?_) hend
      show (if (false = true) then some false else (if r.2 = true then _ else laws_FnPacked.j1 k _)) = _
      rw [if_neg (by simp), if_neg hr]
end Go.Proofs.YtomcfhbmdoomlaaDoor.Pure

-- WSized
-- PRINTED BY print.sh 35421559b90ae4d0a3588c463048766b98c2df88dd9212a6774a882060cdf62d: not written by this session
-- PRINTED WORDS (module Derived/Print/Sized.lean): go-gate-2's, for the rows of laws over slices: an AI agent of Go's test side, Tue Nov 17 2026; no person has read it. Lean checks it.
namespace Go.Proofs.YtomcfhbmdoomlaaDoorW.PrintWords
open Go.ChangeShapes Go.WideShapes
/-- A row's slice of whole numbers is no longer than its weight allows. -/
theorem sized_ints {H : Type} {enc : TypeId × Value → H} {P : Program} {W : World} {base : Nat} {spare : Nat → Bool} {held : Bool} {t e : TypeId} {k : IntKind} {a : Option Addr} {len cap : Nat} {d : DataW H} {ps : List MemPlace} {ts : List TypeId} {ds : List (DataW H)} {j : Nat}
    (hsz : (DataW.weightsEach P ts ds).all (· ≤ reachBytes) = true) (ht : ts[j]? = some t) (hd : ds[j]? = some d) (hu : P.underlying t = some (.slice e)) (he : P.underlying e = some (.int k)) (hc : P.cellsOf e = 1) {B : Nat} (hB : P.bytesOf e = B)
    (h : DataW.Trod enc P W base spare held t (.slice a len cap) d ps) : len * B ≤ 140737488351232 := by
  obtain ⟨fuel, hf⟩ := h
  rcases open_ints hu he hc hf with ⟨hcs, _⟩ | ⟨x, l, c, zs, hcs, _, hl, _, hz, hx, _, _⟩
  · simp [Value.cells] at hcs
    obtain ⟨rfl, rfl, rfl⟩ := hcs
    simp
  · simp [Value.cells] at hcs
    obtain ⟨rfl, rfl, rfl⟩ := hcs
    obtain ⟨hx, _⟩ := Prod.mk.inj hx
    subst hx
    have z := sized_slice hsz ht hd hu
    rw [hB] at z
    have hl2 : len ≤ zs.length := by
      rw [hz]
      split
      · exact hl
      · exact Nat.le_refl _
    have h1 : (lits (H := H) k (zs.take len)).length + (lits (H := H) k (zs.drop len)).length = zs.length := by
      simp [lits]
      omega
    rw [h1] at z
    exact Nat.le_trans (Nat.mul_le_mul_right _ hl2) z
end Go.Proofs.YtomcfhbmdoomlaaDoorW.PrintWords

-- LawFnPacked
-- By my own call of the kit's print (wip/tools/pp.py), turned to a card by wip/tools/doorrow.py.
namespace Go.Proofs.YtomcfhbmdoomlaaDoor.fnPacked
open Go.ChangeShapes Go.WideShapes Go.ChangeAt Go.RowKit
open Go.ChangeMaps (open_string shut_string)
set_option linter.unusedVariables false
theorem own : ownKnob Tryd.prog.godebug = none := by kernel_rfl
theorem laidOut : laidOutB Tryd.prog = true := by kernel_rfl
def IsRow (k : IntKind) (w : World) (a : Option Addr) (len cap : Nat) (zs : List Int) : Prop :=
  (a = none ∧ len = 0 ∧ cap = 0 ∧ zs = []) ∨
  ∃ x, a = some x ∧ len ≤ cap ∧ cap ≤ maxLen ∧ zs.length = cap ∧ (∀ i, i < zs.length → w.cell? (x.add i) = some (.int k (zs.getD i 0))) ∧ ∀ n ∈ zs, (Lit.int k n).wf = true
/-- A world for the witness: the settled one, the listed tables holding what the row lists. -/
noncomputable def laidWorld (os : Os) : World :=
  { World.holding Tryd.prog os ⟨#[], #[], []⟩ with heap := (((World.holding Tryd.prog os ⟨#[], #[], []⟩).heap.modify 2 fun
      | .cells _ t frozen => .cells #[.int .u8 128, .int .u8 191, .int .u8 160, .int .u8 191, .int .u8 128, .int .u8 159, .int .u8 144, .int .u8 191, .int .u8 128, .int .u8 143, .int .u8 0, .int .u8 0, .int .u8 0, .int .u8 0, .int .u8 0, .int .u8 0, .int .u8 0, .int .u8 0, .int .u8 0, .int .u8 0, .int .u8 0, .int .u8 0, .int .u8 0, .int .u8 0, .int .u8 0, .int .u8 0, .int .u8 0, .int .u8 0, .int .u8 0, .int .u8 0, .int .u8 0, .int .u8 0] t frozen
      | o => o).modify 1 fun
      | .cells _ t frozen => .cells #[.int .u8 240, .int .u8 240, .int .u8 240, .int .u8 240, .int .u8 240, .int .u8 240, .int .u8 240, .int .u8 240, .int .u8 240, .int .u8 240, .int .u8 240, .int .u8 240, .int .u8 240, .int .u8 240, .int .u8 240, .int .u8 240, .int .u8 240, .int .u8 240, .int .u8 240, .int .u8 240, .int .u8 240, .int .u8 240, .int .u8 240, .int .u8 240, .int .u8 240, .int .u8 240, .int .u8 240, .int .u8 240, .int .u8 240, .int .u8 240, .int .u8 240, .int .u8 240, .int .u8 240, .int .u8 240, .int .u8 240, .int .u8 240, .int .u8 240, .int .u8 240, .int .u8 240, .int .u8 240, .int .u8 240, .int .u8 240, .int .u8 240, .int .u8 240, .int .u8 240, .int .u8 240, .int .u8 240, .int .u8 240, .int .u8 240, .int .u8 240, .int .u8 240, .int .u8 240, .int .u8 240, .int .u8 240, .int .u8 240, .int .u8 240, .int .u8 240, .int .u8 240, .int .u8 240, .int .u8 240, .int .u8 240, .int .u8 240, .int .u8 240, .int .u8 240, .int .u8 240, .int .u8 240, .int .u8 240, .int .u8 240, .int .u8 240, .int .u8 240, .int .u8 240, .int .u8 240, .int .u8 240, .int .u8 240, .int .u8 240, .int .u8 240, .int .u8 240, .int .u8 240, .int .u8 240, .int .u8 240, .int .u8 240, .int .u8 240, .int .u8 240, .int .u8 240, .int .u8 240, .int .u8 240, .int .u8 240, .int .u8 240, .int .u8 240, .int .u8 240, .int .u8 240, .int .u8 240, .int .u8 240, .int .u8 240, .int .u8 240, .int .u8 240, .int .u8 240, .int .u8 240, .int .u8 240, .int .u8 240, .int .u8 240, .int .u8 240, .int .u8 240, .int .u8 240, .int .u8 240, .int .u8 240, .int .u8 240, .int .u8 240, .int .u8 240, .int .u8 240, .int .u8 240, .int .u8 240, .int .u8 240, .int .u8 240, .int .u8 240, .int .u8 240, .int .u8 240, .int .u8 240, .int .u8 240, .int .u8 240, .int .u8 240, .int .u8 240, .int .u8 240, .int .u8 240, .int .u8 240, .int .u8 240, .int .u8 240, .int .u8 240, .int .u8 241, .int .u8 241, .int .u8 241, .int .u8 241, .int .u8 241, .int .u8 241, .int .u8 241, .int .u8 241, .int .u8 241, .int .u8 241, .int .u8 241, .int .u8 241, .int .u8 241, .int .u8 241, .int .u8 241, .int .u8 241, .int .u8 241, .int .u8 241, .int .u8 241, .int .u8 241, .int .u8 241, .int .u8 241, .int .u8 241, .int .u8 241, .int .u8 241, .int .u8 241, .int .u8 241, .int .u8 241, .int .u8 241, .int .u8 241, .int .u8 241, .int .u8 241, .int .u8 241, .int .u8 241, .int .u8 241, .int .u8 241, .int .u8 241, .int .u8 241, .int .u8 241, .int .u8 241, .int .u8 241, .int .u8 241, .int .u8 241, .int .u8 241, .int .u8 241, .int .u8 241, .int .u8 241, .int .u8 241, .int .u8 241, .int .u8 241, .int .u8 241, .int .u8 241, .int .u8 241, .int .u8 241, .int .u8 241, .int .u8 241, .int .u8 241, .int .u8 241, .int .u8 241, .int .u8 241, .int .u8 241, .int .u8 241, .int .u8 241, .int .u8 241, .int .u8 241, .int .u8 241, .int .u8 2, .int .u8 2, .int .u8 2, .int .u8 2, .int .u8 2, .int .u8 2, .int .u8 2, .int .u8 2, .int .u8 2, .int .u8 2, .int .u8 2, .int .u8 2, .int .u8 2, .int .u8 2, .int .u8 2, .int .u8 2, .int .u8 2, .int .u8 2, .int .u8 2, .int .u8 2, .int .u8 2, .int .u8 2, .int .u8 2, .int .u8 2, .int .u8 2, .int .u8 2, .int .u8 2, .int .u8 2, .int .u8 2, .int .u8 2, .int .u8 19, .int .u8 3, .int .u8 3, .int .u8 3, .int .u8 3, .int .u8 3, .int .u8 3, .int .u8 3, .int .u8 3, .int .u8 3, .int .u8 3, .int .u8 3, .int .u8 3, .int .u8 35, .int .u8 3, .int .u8 3, .int .u8 52, .int .u8 4, .int .u8 4, .int .u8 4, .int .u8 68, .int .u8 241, .int .u8 241, .int .u8 241, .int .u8 241, .int .u8 241, .int .u8 241, .int .u8 241, .int .u8 241, .int .u8 241, .int .u8 241, .int .u8 241] t frozen
      | o => o) }
set_option maxRecDepth 100000 in
theorem laid_met (os : Os) : laidMet Tryd.prog Rows.fnPackedRow.laid ((laidWorld os).forCall (fun _ _ => 0) ⟨#[], #[.slice none 0 0, .slice none 0 0], []⟩).memory :=
  laidMet_of_run' 8 (by kernel_rfl) (by kernel_rfl)
set_option maxRecDepth 100000 in
theorem contract (H : Type) (enc : TypeId × Value → H) (W : World) (base : Nat) (args : Array Value) (ds gs : List (DataW H)) (before : List MemPlace)
    (hval0 : ∀ (j : Nat) t v, Tryd.f10.params[j]? = some t → args[j]? = some v → Value.okWide Tryd.prog W .any base t v)
    (hW : DataW.Whole enc Tryd.prog Tryd.f10.params.toList Rows.fnPackedSpec.vars false W args.toList ds gs before)
    (hsz0 : (DataW.weightsEach Tryd.prog (Tryd.f10.params.toList ++ Rows.fnPackedSpec.plain.varTypes Tryd.prog) (ds ++ gs)).all (· ≤ reachBytes) = true) :
    Calls Tryd.prog 10 args W fun e W' => ∃ v, e = .returned v ∧ Rows.fnPackedSpec.post enc Tryd.prog Tryd.f10 false true false false W args v W' := by
  have hsz : (DataW.weightsEach Tryd.prog (Tryd.f10.params.toList ++ Rows.fnPackedSpec.plain.varTypes Tryd.prog) (ds ++ gs)).all (· ≤ reachBytes) = true := hsz0
  have hval : ∀ (j : Nat) t v, Tryd.f10.params[j]? = some t → args[j]? = some v → Value.okWide Tryd.prog W .any base t v := hval0
  have hW' := hW
  obtain ⟨p, q, hA0, hV, rfl, hfz, hnd⟩ := hW
  have hA : DataW.TrodAll enc Tryd.prog W 0 (fun _ => true) true Tryd.f10.params.toList args.toList ds p := hA0
  rw [Tryd.params10] at hA hval hsz
  obtain ⟨v0, vs0, d0, ds0, p0, q0, hargs, rfl, rfl, h0, r0⟩ := trodAll_cons hA
  obtain ⟨v1, vs1, d1, ds1, p1, q1, rfl, rfl, rfl, h1, r1⟩ := trodAll_cons r0
  obtain ⟨rfl, rfl, rfl⟩ := trodAll_nil r1
  obtain rfl : args = #[v0, v1] := by cases args; simp_all
  obtain ⟨rfl, rfl⟩ := trodVars_none hV
  obtain ⟨a0, len0, cap0, rfl⟩ := okWide_slice Tryd.underlying44 (hval 0 44 v0 rfl rfl)
  have k0 := h0
  have lt0 : ∀ x ∈ p0, x.block < W.heap.size := by obtain ⟨m, hm⟩ := k0; exact DataW.trod_lt m _ _ _ hm
  obtain ⟨z0, w0⟩ : ∃ zs, IsRow .u8 W a0 len0 cap0 zs := by
    obtain ⟨fuel, hf⟩ := h0
    rcases open_ints Tryd.underlying44 Tryd.underlying5 (by kernel_rfl) hf with ⟨hcs, _⟩ | ⟨x, l, c, zs, hcs, _, hl, hm, hz, _, hcell, hwz⟩
    · simp [Value.cells] at hcs
      obtain ⟨rfl, rfl, rfl⟩ := hcs
      exact ⟨[], .inl ⟨rfl, rfl, rfl, rfl⟩⟩
    · simp [Value.cells] at hcs
      obtain ⟨rfl, rfl, rfl⟩ := hcs
      exact ⟨zs, .inr ⟨_, rfl, hl, hm, by simpa using hz, hcell, hwz⟩⟩
  have y0 : len0 * 1 ≤ 140737488351232 := Go.Proofs.YtomcfhbmdoomlaaDoorW.PrintWords.sized_ints hsz (j := 0) (t := 44) rfl rfl Tryd.underlying44 Tryd.underlying5 (by kernel_rfl) (by kernel_rfl) h0
  obtain ⟨a1, len1, cap1, rfl⟩ := okWide_slice Tryd.underlying44 (hval 1 44 v1 rfl rfl)
  have k1 := h1
  have lt1 : ∀ x ∈ p1, x.block < W.heap.size := by obtain ⟨m, hm⟩ := k1; exact DataW.trod_lt m _ _ _ hm
  obtain ⟨z1, w1⟩ : ∃ zs, IsRow .u8 W a1 len1 cap1 zs := by
    obtain ⟨fuel, hf⟩ := h1
    rcases open_ints Tryd.underlying44 Tryd.underlying5 (by kernel_rfl) hf with ⟨hcs, _⟩ | ⟨x, l, c, zs, hcs, _, hl, hm, hz, _, hcell, hwz⟩
    · simp [Value.cells] at hcs
      obtain ⟨rfl, rfl, rfl⟩ := hcs
      exact ⟨[], .inl ⟨rfl, rfl, rfl, rfl⟩⟩
    · simp [Value.cells] at hcs
      obtain ⟨rfl, rfl, rfl⟩ := hcs
      exact ⟨zs, .inr ⟨_, rfl, hl, hm, by simpa using hz, hcell, hwz⟩⟩
  have y1 : len1 * 1 ≤ 140737488351232 := Go.Proofs.YtomcfhbmdoomlaaDoorW.PrintWords.sized_ints hsz (j := 1) (t := 44) rfl rfl Tryd.underlying44 Tryd.underlying5 (by kernel_rfl) (by kernel_rfl) h1
  clear hA0 hval0 hsz0 hsz
  refine (P.laws_FnPacked.walk Pure.FnPacked a0 len0 cap0 z0 a1 len1 cap1 z1 W w0 y0 w1 y1).mono fun e W' ⟨he, bel⟩ => ?_
  subst he
  exact ⟨_, rfl, _, _, _, [], _, [], hW', trodAll_mk1 (shut_bool Tryd.underlying4 _), (trodAll_cons_mk (Below.trod laidOut (by kernel_rfl) (of_decide_eq_true (by kernel_rfl)) k0 bel lt0) (trodAll_cons_mk (Below.trod laidOut (by kernel_rfl) (of_decide_eq_true (by kernel_rfl)) k1 bel lt1) trodAll_mk0)), rfl, bel.frame _, fun h => by cases h⟩

set_option maxRecDepth 100000 in
theorem reads (os : Os) {H : Type} (enc : TypeId × Value → H) : ∃ places, DataW.whole enc Tryd.prog ((laidWorld os).forCall (fun _ _ => 0) ⟨#[], #[.slice none 0 0, .slice none 0 0], []⟩).memory Tryd.f10.params.toList Rows.fnPackedSpec.vars false (#[.slice none 0 0, .slice none 0 0] : Array Value).toList 8 = some ([.nil, .nil], [], places) :=
  ⟨[], by kernel_rfl⟩
set_option maxRecDepth 100000 in
theorem lifted (os : Os) (started : os.Started) (H : Type) (enc : TypeId × Value → H) (F : Stop.Interp) :
    ReturnsInHanded {} Tryd.checked os 10 .any ((OpenSpec.ofChange Rows.fnPackedSpec).preRow enc Tryd.prog Tryd.f10 Rows.fnPackedRow.domain false Rows.fnPackedRow.laid) (((OpenSpec.ofChange Rows.fnPackedSpec).at F).post enc Tryd.prog Tryd.f10 false true false false) := by
  obtain ⟨places, hx⟩ := reads os enc
  refine returnsInHanded_of_row (C := Tryd.checked) (s := OpenSpec.ofChange Rows.fnPackedSpec) own started (by kernel_rfl) Tryd.func10
    (witness_row_at (enc := enc) (C := Tryd.checked) false (laidWorld os) #[.slice none 0 0, .slice none 0 0] rfl (by kernel_rfl) (by kernel_rfl) (by kernel_rfl)
      (OpenSpec.preRow_of_cond 8 hx (by kernel_rfl) (fun k hk => by cases hk) (by kernel_rfl) (laid_met os))) ?_
  intro W base args ds gs before hval hW _ _ hsz hL _ _
  exact contract H enc W base args ds gs before hval hW hsz
theorem said : Rows.FnPackedSaid :=
  OpenClaim.holds_of_cond 10 Tryd.f10 rfl rfl rfl rfl rfl rfl rfl ⟨rfl, rfl, rfl, rfl, rfl⟩ rfl rfl rfl rfl rfl (by kernel_rfl) Tryd.func10 (by kernel_rfl)
    (of_decide_eq_true (by kernel_rfl)) (by unfold Func.isWrapper; first | (rw [if_pos (by decide +kernel)]; kernel_rfl) | (rw [if_neg (by decide +kernel)]; exact ⟨rfl, rfl⟩))
    (fun os started H enc _ F => by rw [OpenClaim.pre_eq_preRow]; exact lifted os started H enc F)
theorem wants : Tryd.f10.params.toList.all (fun t => Tryd.prog.wantsStandIn t == false) = true := by kernel_rfl
theorem plain (f : FuncId) (fn : Func) (hf : Tryd.pinned.checked.prog.funcNamed "loop.example/g00300/laws.FnPacked" = some f) (hfn : Tryd.pinned.checked.prog.funcs[f]? = some fn) :
    false = Tryd.pinned.checked.prog.looks [] ∧ ∀ (j : Nat) t, fn.params[j]? = some t → Tryd.pinned.checked.prog.wantsStandIn t = false := by
  obtain rfl : f = 10 := Option.some.inj ((show Tryd.prog.funcNamed "loop.example/g00300/laws.FnPacked" = some 10 by kernel_rfl).symm.trans hf) |>.symm
  obtain rfl : fn = Tryd.f10 := (Option.some.inj (Tryd.func10.symm.trans hfn)).symm
  refine ⟨by kernel_rfl, fun j t ht => ?_⟩
  exact eq_of_beq (List.all_eq_true.1 wants t (Array.mem_toList_iff.2 (Array.mem_of_getElem? ht)))
theorem proved : Rows.FnPackedCardSaid :=
  Claim7.holds_tied_plain_at .later [] _ _ _ _ said (fun _ h => by cases h) (by kernel_rfl) (fun _ h => by cases h) fnPacked_row_tie rfl ⟨rfl, rfl⟩ (by kernel_rfl) rfl plain (by kernel_rfl)
#print axioms proved
end Go.Proofs.YtomcfhbmdoomlaaDoor.fnPacked
namespace Go.Proofs.YtomcfhbmdoomlaaDoor
/-- The card, under a short name, for the claim. -/
theorem fnPacked_holds : Rows.FnPackedCardSaid := fnPacked.proved
end Go.Proofs.YtomcfhbmdoomlaaDoor
