/- FnExactNamesIn: the theorem. Conditions: none. -/
import Derived.Test.YtkpkfallgjdkmaaGreatDoorMFnExactNamesInx28
import Derived.Test.YtkpkfallgjdkmaaGreatDoorCards
import Derived.Test.YtkpkfallgjdkmaaGreatDoorTie
import Derived.Deep.DeepHandedRow
import Derived.Stop.LaidErr
namespace Go.Proofs.YtkpkfallgjdkmaaGreatDoor.Pure
open Go.RowKit Go.Proofs.YtkpkfallgjdkmaaGreatDoor.P Go.Proofs.YtkpkfallgjdkmaaGreatDoorW.PrintWords Go.Proofs.YtkpkfallgjdkmaaGreatDoorW.PrintLast Go.Proofs.YtkpkfallgjdkmaaGreatDoorW.PrintMore
set_option linter.unusedVariables false
set_option linter.unusedSimpArgs false
theorem last_or (D : List (List UInt8)) (x : List UInt8) (hr : Rising D) (hx : ∀ y ∈ D, y = x ∨ ordL y x < 0) : (∀ y ∈ D, ordL y x < 0) ∨ ∃ h : 0 < D.length, D[D.length - 1] = x := by
 by_cases h : ∀ y ∈ D, ordL y x < 0
 · exact .inl h
 · right
   have hex : ∃ y ∈ D, y = x := by
    apply Decidable.byContradiction
    intro hn
    apply h
    intro y hy
    rcases hx y hy with e | e
    · exact absurd ⟨y, hy, e⟩ hn
    · exact e
   obtain ⟨y, hy, e⟩ := hex
   obtain ⟨j, hj, e2⟩ := List.mem_iff_getElem.1 hy
   refine ⟨by omega, ?_⟩
   by_cases hjl : j = D.length - 1
   · subst hjl; rw [e2, e]
   · have h1 := List.pairwise_iff_getElem.1 hr j (D.length - 1) hj (by omega) (by omega)
     rcases hx D[D.length - 1] (List.getElem_mem (by omega)) with e3 | e3
     · exact e3
     · have e4 := ord_trans h1 e3
       rw [e2, e, (ord_zero x x).2 rfl] at e4
       omega
theorem names_both (L : List ZRec) (hL : L.length ≤ 1048576) (hg : ∀ r ∈ L, goodL (nmL r) = true) (hr : L.Pairwise fun x y => nmL x = nmL y ∨ ordL (nmL x) (nmL y) < 0) : ∀ (m i : Nat) (D : List (List UInt8)), i + m = L.length → D.length ≤ i → Rising D → (∀ y ∈ D, goodL y = true) → (∀ y ∈ D, ∀ j (hj : j < L.length), i ≤ j → y = nmL L[j] ∨ ordL y (nmL L[j]) < 0) →
 ∃ R : List (List UInt8), R.length ≤ L.length ∧ Ev (fun k => spec_l6Names.l0 k (D.map mkB) L (L.length : Int) (i : Int)) (R.map mkB) ∧ Ev (fun k => impl_namesIn.l0 k (D.map mkB) L (L.length : Int) (i : Int)) (R.map mkB)
 | 0, i, D, h, hD, hRi, hgD, hx => by
  refine ⟨D, by omega, Ev.step (f := fun _ => some (D.map mkB)) (fun k => ?_) (Ev.now _), Ev.step (f := fun _ => some (D.map mkB)) (fun k => ?_) (Ev.now _)⟩
  · show spec_l6Names.l0 (k + 1) (D.map mkB) L (L.length : Int) (i : Int) = _
    rw [spec_l6Names.l0, if_neg (by omega)]
  · show impl_namesIn.l0 (k + 1) (D.map mkB) L (L.length : Int) (i : Int) = _
    rw [impl_namesIn.l0, if_neg (by omega)]
 | m + 1, i, D, h, hD, hRi, hgD, hx => by
  have hi : i < L.length := by omega
  have gi := hg _ (List.getElem_mem hi)
  have en : L[i].f0 = mkB (nmL L[i]) := by unfold nmL; simp [mkB]
  obtain ⟨r, p1, p2, p3, p4⟩ := put_ev D (nmL L[i]) (by omega) hgD gi hRi D.length 0 (by omega) (fun j hj hj0 => absurd hj0 (by omega))
  have pE : Ev (fun k => spec_l1Put.f k (D.map mkB) (mkB (nmL L[i]))) (r.map mkB) := Ev.congr (fun k => rfl) p1
  have e1 : ∀ k, spec_l6Names.l0 (k + 1) (D.map mkB) L (L.length : Int) (i : Int) = ((spec_l1Put.f k (D.map mkB) (mkB (nmL L[i]))).bind fun t958 => (spec_l6Names.l0 k t958 L (L.length : Int) ((i + 1 : Nat) : Int))) := fun k => by
   rw [spec_l6Names.l0, if_pos (by omega), if_pos (by omega), if_pos (by omega), rdI L i hi, en, w64n (by omega)]
  have hlen : (D.map mkB).length = D.length := List.length_map ..
  have hnext : ∀ j (hj : j < L.length), i + 1 ≤ j → nmL L[i] = nmL L[j] ∨ ordL (nmL L[i]) (nmL L[j]) < 0 := fun j hj hij => List.pairwise_iff_getElem.1 hr i j hi hj (by omega)
  rcases last_or D (nmL L[i]) hRi (fun y hy => hx y hy i hi (Nat.le_refl _)) with hall | ⟨h0, hlast⟩
  · -- a new name
    have hr2 : Rising (D ++ [nmL L[i]]) := List.pairwise_append.2 ⟨hRi, List.pairwise_singleton _ _, fun y hy z hz => by rw [List.mem_singleton.1 hz]; exact hall y hy⟩
    have er : r = D ++ [nmL L[i]] := sorted_one _ _ p2 hr2 fun z => by rw [p3 z, List.mem_append, List.mem_singleton]
    obtain ⟨R, q1, q2, q3⟩ := names_both L hL hg hr m (i + 1) (D ++ [nmL L[i]]) (by omega) (by rw [List.length_append, List.length_singleton]; omega) hr2 (fun y hy => by
     rcases List.mem_append.1 hy with hy | hy
     · exact hgD y hy
     · rw [List.mem_singleton.1 hy]; exact gi) (fun y hy j hj hij => by
     rcases List.mem_append.1 hy with hy | hy
     · exact hx y hy j hj (by omega)
     · rw [List.mem_singleton.1 hy]; exact hnext j hj hij)
    rw [List.map_append] at q3
    refine ⟨R, q1, Ev.step e1 (Ev.bind pE (by rw [er]; exact q2)), Ev.step (fun k => ?_) q3⟩
    rw [impl_namesIn.l0, if_pos (by omega), if_pos (by omega), if_pos (by omega), rdI L i hi, en, w64n (by omega), hlen]
    by_cases hd : D.length = 0
    · rw [if_pos (by unfold wrap64; omega), if_pos (by omega)]
      rfl
    · have hw : wrap64 ((D.length : Int) - 1) = ((D.length - 1 : Nat) : Int) := by unfold wrap64; omega
      have hlt : D.length - 1 < D.length := by omega
      have hne : ¬ (mkB D[D.length - 1]).toList = (mkB (nmL L[i])).toList := by
       rw [Lib.toList_data, Lib.toList_data, mkB_data, mkB_data]
       intro e
       have := hall _ (List.getElem_mem hlt)
       rw [e, (ord_zero _ _).2 rfl] at this
       omega
      rw [hw, if_neg (by omega), if_pos (by omega), if_pos (by omega), sn_rd D _ hlt, if_neg hne, if_pos (by omega)]
      rfl
  · -- the last name once more
    have er : r = D := sorted_one _ _ p2 hRi fun z => by
     rw [p3 z]
     refine ⟨fun hz => hz.elim id fun e => ?_, .inl⟩
     rw [e, ← hlast]
     exact List.getElem_mem _
    obtain ⟨R, q1, q2, q3⟩ := names_both L hL hg hr m (i + 1) D (by omega) (by omega) hRi hgD (fun y hy j hj hij => hx y hy j hj (by omega))
    refine ⟨R, q1, Ev.step e1 (Ev.bind pE (by rw [er]; exact q2)), Ev.step (fun k => ?_) q3⟩
    have hw : wrap64 ((D.length : Int) - 1) = ((D.length - 1 : Nat) : Int) := by unfold wrap64; omega
    have hlt : D.length - 1 < D.length := by omega
    rw [impl_namesIn.l0, if_pos (by omega), if_pos (by omega), if_pos (by omega), rdI L i hi, en, w64n (by omega), hlen, hw, if_neg (by omega), if_pos (by omega), if_pos (by omega), sn_rd D _ hlt, hlast, if_pos rfl]
theorem rise_names {L : List ZRec} (h : Rise kB L) : L.Pairwise fun x y => nmL x = nmL y ∨ ordL (nmL x) (nmL y) < 0 := by
 refine List.Pairwise.imp ?_ h
 intro x y hxy
 rw [recO_neg] at hxy
 rcases hxy with h1 | ⟨⟨h1, _⟩, _⟩
 · rw [key_neg] at h1
   rcases h1 with h1 | ⟨h1, _⟩
   · exact .inr h1
   · exact .inl h1
 · exact .inl (by unfold nmL; rw [h1])
theorem namesIn_both (a : ByteArray) (c : Int) (L : List ZRec) (ha : a.size ≤ 1048576) (hL : L.length ≤ 1048576) (hs : ∀ r ∈ L, Small r.f0 ∧ Small r.f3) : ∃ (R : List ByteArray) (ok : Bool), R.length ≤ 1048576 ∧ Ev (fun k => spec_NamesIn.f k a c L) (R, ok) ∧ Ev (fun k => impl_NamesIn.f k a c L) (R, ok) := by
 obtain ⟨r1, r2⟩ := zone_both a c L ha hL hs
 cases h : zoneB a c L with
 | false =>
  rw [h] at r1 r2
  exact ⟨[], false, by decide, Ev.congr (fun k => rfl) (Ev.bind r1 (Ev.now _)), Ev.congr (fun k => rfl) (Ev.bind r2 (Ev.now _))⟩
 | true =>
  rw [h] at r1 r2
  obtain ⟨_, _, _, hg, hri⟩ := zone_parts h
  obtain ⟨R, q1, q2, q3⟩ := names_both L hL (fun r hr => (good_of (hs r hr) (hg r hr)).2.1) (rise_names hri) L.length 0 [] (by omega) (by simp) List.Pairwise.nil (fun y hy => by cases hy) (fun y hy => by cases hy)
  have q2 : Ev (fun k => spec_l6Names.f k L) (R.map mkB) := Ev.congr (fun k => rfl) q2
  have q3 : Ev (fun k => impl_namesIn.f k L) (R.map mkB) := Ev.congr (fun k => rfl) q3
  refine ⟨R.map mkB, true, by rw [List.length_map]; omega, Ev.congr (fun k => rfl) (Ev.bind r1 ?_), Ev.congr (fun k => rfl) (Ev.bind r2 ?_)⟩
  · simp only [if_true]; exact Ev.bind q2 (Ev.now _)
  · simp only [if_true]; exact Ev.bind q3 (Ev.now _)
theorem FnExactNamesIn : ∀ (a : ByteArray) (c : Int) (l : List LRec), a.size ≤ maxLen → l.length ≤ maxLen → (∀ y ∈ l, y.f0.size ≤ maxLen ∧ y.f3.size ≤ maxLen) → ∃ k, laws_FnExactNamesIn.f k a c l = some true := by
 intro a c l ha hm hw
 suffices h : Ev (fun k => laws_FnExactNamesIn.f k a c l) true from h.rounds
 obtain ⟨t, e, q⟩ := szZ_ev a c l ha hm hw
 refine Ev.congr (fun k => rfl) (Ev.bind e ?_)
 by_cases ht : t < 0
 · simp only [if_pos ht]; exact Ev.now _
 · obtain ⟨q1, q2, q3⟩ := q (by omega)
   have hl : (l.map conv).length ≤ 1048576 := by rw [List.length_map]; exact q2
   obtain ⟨R, ok, hR, r1, r2⟩ := namesIn_both a c (l.map conv) q1 hl (small_conv q3)
   have eT := toZ_ev a c l q2
   have eE := eqZ_ev a c (l.map conv) hl
   have eR := eqS_ev R (by omega)
   have eM : Ev (fun k => laws_markZone.f k a c (l.map conv) 1) (((1 + 4 * (l.map conv).length : Nat) : Int), marksR 1 (l.map conv).length) := Ev.congr (fun k => rfl) (Ev.bind (markR_ev 1 (by omega) (l.map conv) hl) (Ev.now _))
   have mR : Ev (fun k => laws_markStringS.f k R 1) (((1 + R.length : Nat) : Int), marks 1 R.length) := markS_ev 1 (by omega) R (by omega)
   have hR2 : Ev (fun k => laws_heldStringS.f k (marks 1 R.length) 1) ((1 + R.length : Nat) : Int) := heldS_ev 1 R.length (by omega) (by omega)
   simp only [if_neg ht]
   refine Ev.bind eT (Ev.bind r1 (Ev.bind eT (Ev.bind r2 (Ev.bind eR ?_))))
   simp only [bne_self_eq_false, if_true]
   have j2 : Ev (fun k => laws_FnExactNamesIn.j2 k (marks 1 R.length) ((1 + R.length : Nat) : Int) false) true := by
    refine Ev.step (fun k => by rw [laws_FnExactNamesIn.j2, if_neg (by decide)]) (Ev.bind hR2 ?_)
    simp only [if_neg (show ¬ ((1 + R.length : Nat) : Int) < 0 by omega), if_true]
    exact Ev.now _
   have j1 : Ev (fun k => laws_FnExactNamesIn.j1 k R ok R false a c l) true := by
    refine Ev.step (fun k => by rw [laws_FnExactNamesIn.j1, if_neg (by decide)]) (Ev.bind mR (Ev.bind hR2 ?_))
    simp only [if_neg (show ¬ ((1 + R.length : Nat) : Int) < 0 by omega), if_true]
    refine Ev.bind eT (Ev.bind r2 (Ev.bind eR ?_))
    simp only [bne_self_eq_false, if_true]
    exact j2
   refine Ev.step (fun k => by rw [laws_FnExactNamesIn.j0, if_neg (by decide)]) (Ev.bind eT (Ev.bind eE ?_))
   simp only [if_true]
   refine Ev.bind eM ?_
   simp only [if_neg (show ¬ ((1 + 4 * (l.map conv).length : Nat) : Int) < 0 by omega)]
   refine Ev.bind eR ?_
   simp only [bne_self_eq_false, if_true]
   exact j1
end Go.Proofs.YtkpkfallgjdkmaaGreatDoor.Pure
namespace Go.Proofs.YtkpkfallgjdkmaaGreatDoor.fnExactNamesIn
open Go.ChangeShapes Go.WideShapes Go.ChangeAt Go.RowKit Go.Joins Go.Proofs.YtkpkfallgjdkmaaGreatDoor.P Go.Proofs.YtkpkfallgjdkmaaGreatDoorW.PrintWords
open Go.ChangeMaps (open_string shut_string)
set_option linter.unusedVariables false
theorem own : ownKnob Tryz.prog.godebug = none := by kernel_rfl
theorem laidOut : laidOutB Tryz.prog = true := by kernel_rfl
instance : Inhabited (P.S71) := ⟨P.z71⟩
theorem opens_rec : Opens Tryz.prog 71 P.k71 (fun x => x.f0.size ≤ maxLen ∧ x.f3.size ≤ maxLen) :=
 Opens.imp (opens_iso (f := fun x : P.S71 => (x.f0, x.f1, x.f2, x.f3)) (fun x => (⟨x.1, x.2.1, x.2.2.1, x.2.2.2⟩ : P.S71)) (fun _ => rfl) (opens_struct4 Tryz.underlying71 (by kernel_rfl) (by kernel_rfl) (opens_text Tryz.underlying9) (opens_int Tryz.underlying3) (opens_int Tryz.underlying3) (opens_text Tryz.underlying9))) fun x h => ⟨h.1, h.2.2.2⟩
theorem opens_recs : Opens Tryz.prog 30 (Kd.slice 71 P.k71) (fun l => l.length ≤ maxLen ∧ ∀ y ∈ l, y.f0.size ≤ maxLen ∧ y.f3.size ≤ maxLen) :=
 opens_slice Tryz.underlying30 (by kernel_rfl) opens_rec
noncomputable def low : Nat := (World.holding Tryz.prog default ⟨#[], #[], []⟩).heap.size
noncomputable def laidWorld (os : Os) : World :=
 { World.holding Tryz.prog os ⟨#[.cells #[.string { data := #[118, 97, 108, 117, 101, 32, 111, 117, 116, 32, 111, 102, 32, 114, 97, 110, 103, 101] }] 179, .cells #[.string { data := #[105, 110, 118, 97, 108, 105, 100, 32, 115, 121, 110, 116, 97, 120] }] 179], #[], []⟩ with heap := ((((((((World.holding Tryz.prog os ⟨#[.cells #[.string { data := #[118, 97, 108, 117, 101, 32, 111, 117, 116, 32, 111, 102, 32, 114, 97, 110, 103, 101] }] 179, .cells #[.string { data := #[105, 110, 118, 97, 108, 105, 100, 32, 115, 121, 110, 116, 97, 120] }] 179], #[], []⟩).heap.modify 4 fun
  | .cells _ t frozen => .cells #[.int .u8 0, .int .u8 1, .int .u8 28, .int .u8 2, .int .u8 29, .int .u8 14, .int .u8 24, .int .u8 3, .int .u8 30, .int .u8 22, .int .u8 20, .int .u8 15, .int .u8 25, .int .u8 17, .int .u8 4, .int .u8 8, .int .u8 31, .int .u8 27, .int .u8 13, .int .u8 23, .int .u8 21, .int .u8 19, .int .u8 16, .int .u8 7, .int .u8 26, .int .u8 12, .int .u8 18, .int .u8 6, .int .u8 11, .int .u8 5, .int .u8 10, .int .u8 9] t frozen
  | o => o).modify 5 fun
  | .cells _ t frozen => .cells #[.int .u8 0, .int .u8 1, .int .u8 56, .int .u8 2, .int .u8 57, .int .u8 49, .int .u8 28, .int .u8 3, .int .u8 61, .int .u8 58, .int .u8 42, .int .u8 50, .int .u8 38, .int .u8 29, .int .u8 17, .int .u8 4, .int .u8 62, .int .u8 47, .int .u8 59, .int .u8 36, .int .u8 45, .int .u8 43, .int .u8 51, .int .u8 22, .int .u8 53, .int .u8 39, .int .u8 33, .int .u8 30, .int .u8 24, .int .u8 18, .int .u8 12, .int .u8 5, .int .u8 63, .int .u8 55, .int .u8 48, .int .u8 27, .int .u8 60, .int .u8 41, .int .u8 37, .int .u8 16, .int .u8 46, .int .u8 35, .int .u8 44, .int .u8 21, .int .u8 52, .int .u8 32, .int .u8 23, .int .u8 11, .int .u8 54, .int .u8 26, .int .u8 40, .int .u8 15, .int .u8 34, .int .u8 20, .int .u8 31, .int .u8 10, .int .u8 25, .int .u8 14, .int .u8 19, .int .u8 9, .int .u8 13, .int .u8 8, .int .u8 7, .int .u8 6] t frozen
  | o => o).modify 1 fun
  | .cells _ t frozen => .cells #[.int .u64 1, .int .u64 10, .int .u64 100, .int .u64 1000, .int .u64 10000, .int .u64 100000, .int .u64 1000000, .int .u64 10000000, .int .u64 100000000, .int .u64 1000000000, .int .u64 10000000000, .int .u64 100000000000, .int .u64 1000000000000, .int .u64 10000000000000, .int .u64 100000000000000, .int .u64 1000000000000000, .int .u64 10000000000000000, .int .u64 100000000000000000, .int .u64 1000000000000000000, .int .u64 10000000000000000000] t frozen
  | o => o).modify 3 fun
  | .cells _ t frozen => .cells #[.int .u8 128, .int .u8 191, .int .u8 160, .int .u8 191, .int .u8 128, .int .u8 159, .int .u8 144, .int .u8 191, .int .u8 128, .int .u8 143, .int .u8 0, .int .u8 0, .int .u8 0, .int .u8 0, .int .u8 0, .int .u8 0, .int .u8 0, .int .u8 0, .int .u8 0, .int .u8 0, .int .u8 0, .int .u8 0, .int .u8 0, .int .u8 0, .int .u8 0, .int .u8 0, .int .u8 0, .int .u8 0, .int .u8 0, .int .u8 0, .int .u8 0, .int .u8 0] t frozen
  | o => o).modify 7 fun
  | .cells _ t frozen => .cells #[.iface 177 (.pointer (some ⟨low, 0, none⟩))] t frozen
  | o => o).modify 6 fun
  | .cells _ t frozen => .cells #[.iface 177 (.pointer (some ⟨low + 1, 0, none⟩))] t frozen
  | o => o).modify 2 fun
  | .cells _ t frozen => .cells #[.int .u8 240, .int .u8 240, .int .u8 240, .int .u8 240, .int .u8 240, .int .u8 240, .int .u8 240, .int .u8 240, .int .u8 240, .int .u8 240, .int .u8 240, .int .u8 240, .int .u8 240, .int .u8 240, .int .u8 240, .int .u8 240, .int .u8 240, .int .u8 240, .int .u8 240, .int .u8 240, .int .u8 240, .int .u8 240, .int .u8 240, .int .u8 240, .int .u8 240, .int .u8 240, .int .u8 240, .int .u8 240, .int .u8 240, .int .u8 240, .int .u8 240, .int .u8 240, .int .u8 240, .int .u8 240, .int .u8 240, .int .u8 240, .int .u8 240, .int .u8 240, .int .u8 240, .int .u8 240, .int .u8 240, .int .u8 240, .int .u8 240, .int .u8 240, .int .u8 240, .int .u8 240, .int .u8 240, .int .u8 240, .int .u8 240, .int .u8 240, .int .u8 240, .int .u8 240, .int .u8 240, .int .u8 240, .int .u8 240, .int .u8 240, .int .u8 240, .int .u8 240, .int .u8 240, .int .u8 240, .int .u8 240, .int .u8 240, .int .u8 240, .int .u8 240, .int .u8 240, .int .u8 240, .int .u8 240, .int .u8 240, .int .u8 240, .int .u8 240, .int .u8 240, .int .u8 240, .int .u8 240, .int .u8 240, .int .u8 240, .int .u8 240, .int .u8 240, .int .u8 240, .int .u8 240, .int .u8 240, .int .u8 240, .int .u8 240, .int .u8 240, .int .u8 240, .int .u8 240, .int .u8 240, .int .u8 240, .int .u8 240, .int .u8 240, .int .u8 240, .int .u8 240, .int .u8 240, .int .u8 240, .int .u8 240, .int .u8 240, .int .u8 240, .int .u8 240, .int .u8 240, .int .u8 240, .int .u8 240, .int .u8 240, .int .u8 240, .int .u8 240, .int .u8 240, .int .u8 240, .int .u8 240, .int .u8 240, .int .u8 240, .int .u8 240, .int .u8 240, .int .u8 240, .int .u8 240, .int .u8 240, .int .u8 240, .int .u8 240, .int .u8 240, .int .u8 240, .int .u8 240, .int .u8 240, .int .u8 240, .int .u8 240, .int .u8 240, .int .u8 240, .int .u8 240, .int .u8 240, .int .u8 240, .int .u8 240, .int .u8 240, .int .u8 241, .int .u8 241, .int .u8 241, .int .u8 241, .int .u8 241, .int .u8 241, .int .u8 241, .int .u8 241, .int .u8 241, .int .u8 241, .int .u8 241, .int .u8 241, .int .u8 241, .int .u8 241, .int .u8 241, .int .u8 241, .int .u8 241, .int .u8 241, .int .u8 241, .int .u8 241, .int .u8 241, .int .u8 241, .int .u8 241, .int .u8 241, .int .u8 241, .int .u8 241, .int .u8 241, .int .u8 241, .int .u8 241, .int .u8 241, .int .u8 241, .int .u8 241, .int .u8 241, .int .u8 241, .int .u8 241, .int .u8 241, .int .u8 241, .int .u8 241, .int .u8 241, .int .u8 241, .int .u8 241, .int .u8 241, .int .u8 241, .int .u8 241, .int .u8 241, .int .u8 241, .int .u8 241, .int .u8 241, .int .u8 241, .int .u8 241, .int .u8 241, .int .u8 241, .int .u8 241, .int .u8 241, .int .u8 241, .int .u8 241, .int .u8 241, .int .u8 241, .int .u8 241, .int .u8 241, .int .u8 241, .int .u8 241, .int .u8 241, .int .u8 241, .int .u8 241, .int .u8 241, .int .u8 2, .int .u8 2, .int .u8 2, .int .u8 2, .int .u8 2, .int .u8 2, .int .u8 2, .int .u8 2, .int .u8 2, .int .u8 2, .int .u8 2, .int .u8 2, .int .u8 2, .int .u8 2, .int .u8 2, .int .u8 2, .int .u8 2, .int .u8 2, .int .u8 2, .int .u8 2, .int .u8 2, .int .u8 2, .int .u8 2, .int .u8 2, .int .u8 2, .int .u8 2, .int .u8 2, .int .u8 2, .int .u8 2, .int .u8 2, .int .u8 19, .int .u8 3, .int .u8 3, .int .u8 3, .int .u8 3, .int .u8 3, .int .u8 3, .int .u8 3, .int .u8 3, .int .u8 3, .int .u8 3, .int .u8 3, .int .u8 3, .int .u8 35, .int .u8 3, .int .u8 3, .int .u8 52, .int .u8 4, .int .u8 4, .int .u8 4, .int .u8 68, .int .u8 241, .int .u8 241, .int .u8 241, .int .u8 241, .int .u8 241, .int .u8 241, .int .u8 241, .int .u8 241, .int .u8 241, .int .u8 241, .int .u8 241] t frozen
  | o => o) }
set_option maxRecDepth 100000 in
theorem laid_met (os : Os) : laidMet Tryz.prog Rows.fnExactNamesInRow.laid ((laidWorld os).forCall (fun _ _ => 0) ⟨#[], #[.agg #[.string ByteArray.empty, .int .i64 0, .slice none 0 0]], []⟩).memory :=
 laidMet_of_run' 8 (by kernel_rfl) (by kernel_rfl)
theorem ptr_row (u : TypeId) (h : Tryz.prog.typeName? 3 u = some "*errors.errorString") : u = 177 :=
 typeName_ptr_named (nm := "errors.errorString") (by rw [show "*" ++ "errors.errorString" = "*errors.errorString" by decide]; kernel_rfl) (by kernel_rfl) (by decide) u (by rw [show "*" ++ "errors.errorString" = "*errors.errorString" by decide]; exact h)
theorem vars_of {W : World} (hL : laidMet Tryz.prog Rows.fnExactNamesInRow.laid W) : P.Vars W := by
 obtain ⟨_, _, hs, -, -, -⟩ := laid_sentinel (n := "strconv.ErrSyntax") (g := 6) hL.tail.tail.tail.tail.tail (by kernel_rfl) (by kernel_rfl) Tryz.underlying140 ptr_row Tryz.underlying177 Tryz.underlying179 rfl rfl Tryz.underlying9 (by kernel_rfl) (by kernel_rfl)
 obtain ⟨_, _, hr, -, -, -⟩ := laid_sentinel (n := "strconv.ErrRange") (g := 7) hL.tail.tail.tail.tail (by kernel_rfl) (by kernel_rfl) Tryz.underlying140 ptr_row Tryz.underlying177 Tryz.underlying179 rfl rfl Tryz.underlying9 (by kernel_rfl) (by kernel_rfl)
 have hp : laidMet Tryz.prog (("internal/strconv.uint64pow10", Lib.tabData .u64 Lib.pow10Tab) :: _) W := hL.tail.tail
 have ht := Lib.tabIs_of_head (g := 1) (by kernel_rfl) (by kernel_rfl) Tryz.underlying148 Tryz.underlying130 (by kernel_rfl) (by kernel_rfl) hp
 exact ⟨⟨_, _, hs⟩, ⟨_, _, hr⟩, ht⟩
set_option maxRecDepth 100000 in
theorem contract (H : Type) (enc : TypeId × Value → H) (W : World) (base : Nat) (args : Array Value) (ds gs : List (DataW H)) (before : List MemPlace)
 (hval0 : ∀ (j : Nat) t v, Tryz.f11.params[j]? = some t → args[j]? = some v → Value.okWide Tryz.prog W .any base t v)
 (hW : DataW.Whole enc Tryz.prog Tryz.f11.params.toList Rows.fnExactNamesInSpec.vars false W args.toList ds gs before)
 (hsz0 : (DataW.weightsEach Tryz.prog (Tryz.f11.params.toList ++ Rows.fnExactNamesInSpec.plain.varTypes Tryz.prog) (ds ++ gs)).all (· ≤ reachBytes) = true) (hL : laidMet Tryz.prog Rows.fnExactNamesInRow.laid W) :
 Calls Tryz.prog 11 args W fun e W' => ∃ v, e = .returned v ∧ Rows.fnExactNamesInSpec.post enc Tryz.prog Tryz.f11 false true false false W args v W' := by
 have hsz : (DataW.weightsEach Tryz.prog (Tryz.f11.params.toList ++ Rows.fnExactNamesInSpec.plain.varTypes Tryz.prog) (ds ++ gs)).all (· ≤ reachBytes) = true := hsz0
 have hval : ∀ (j : Nat) t v, Tryz.f11.params[j]? = some t → args[j]? = some v → Value.okWide Tryz.prog W .any base t v := hval0
 have hW' := hW
 obtain ⟨p, q, hA0, hV, rfl, hfz, hnd⟩ := hW
 have hA : DataW.TrodAll enc Tryz.prog W 0 (fun _ => true) true Tryz.f11.params.toList args.toList ds p := hA0
 rw [Tryz.params11] at hA hval hsz
 obtain ⟨v0, vs0, d0, ds0, p0, q0, hargs, rfl, rfl, h0, r0⟩ := trodAll_cons hA
 obtain ⟨rfl, rfl, rfl⟩ := trodAll_nil r0
 obtain rfl : args = #[v0] := by cases args; simp_all
 obtain ⟨rfl, rfl⟩ := trodVars_none hV
 have k0 := h0
 have lt0 : ∀ x ∈ p0, x.block < W.heap.size := by obtain ⟨m, hm⟩ := k0; exact DataW.trod_lt m _ _ _ hm
 obtain ⟨l0, n0, rfl, z0, f0⟩ := open_agg Tryz.underlying51 (by kernel_rfl) (by kernel_rfl) (hval 0 51 v0 rfl rfl) h0
 obtain ⟨c0_0, c0_1, c0_2, rfl⟩ := list3 z0
 obtain ⟨y0_0, hy0_0⟩ := f0 0 _ c0_0 rfl rfl
 obtain ⟨g0_0, eg0_0, wg0_0⟩ := opens_text Tryz.underlying9 H enc W 0 _ true _ _ _ hy0_0
 obtain ⟨rfl, _⟩ := List.cons.inj eg0_0
 obtain ⟨y0_1, hy0_1⟩ := f0 1 _ c0_1 rfl rfl
 obtain ⟨g0_1, eg0_1, wg0_1⟩ := opens_int Tryz.underlying3 H enc W 0 _ true _ _ _ hy0_1
 obtain ⟨rfl, _⟩ := List.cons.inj eg0_1
 obtain ⟨y0_2, hy0_2⟩ := f0 2 _ c0_2 rfl rfl
 obtain ⟨g0_2, ⟨Ag0_2, cg0_2, eg0_2, lg0_2, rg0_2⟩, mg0_2, wg0_2⟩ := opens_recs H enc W 0 _ true _ _ _ hy0_2
 obtain ⟨rfl, _⟩ := List.cons.inj eg0_2
 clear f0
 clear hA0 hval0 hsz0 hsz
 obtain ⟨k, hk⟩ := Pure.FnExactNamesIn g0_0 g0_1 g0_2 wg0_0 mg0_2 wg0_2
 refine (P.laws_FnExactNamesIn.calls k g0_0 g0_1 Ag0_2 cg0_2 g0_2 true W rg0_2 lg0_2 hk (vars_of hL)).mono fun e W' ⟨he, bel⟩ => ?_
 subst he
 exact ⟨_, rfl, _, _, _, [], _, [], hW', trodAll_mk1 (shut_bool Tryz.underlying4 _), (trodAll_cons_mk (Below.trod laidOut (by kernel_rfl) (of_decide_eq_true (by kernel_rfl)) k0 bel lt0) trodAll_mk0), rfl, bel.frame _, fun h => by cases h⟩
set_option maxRecDepth 100000 in
theorem reads (os : Os) {H : Type} (enc : TypeId × Value → H) : ∃ places, DataW.whole enc Tryz.prog ((laidWorld os).forCall (fun _ _ => 0) ⟨#[], #[.agg #[.string ByteArray.empty, .int .i64 0, .slice none 0 0]], []⟩).memory Tryz.f11.params.toList Rows.fnExactNamesInSpec.vars false (#[.agg #[.string ByteArray.empty, .int .i64 0, .slice none 0 0]] : Array Value).toList 8 = some ([.agg [.lit (.string []), .lit (.int .i64 0), .nil]], [], places) :=
 ⟨[], by kernel_rfl⟩
set_option maxRecDepth 100000 in
theorem lifted (os : Os) (started : os.Started) (H : Type) (enc : TypeId × Value → H) (F : Stop.Interp) :
 ReturnsInHanded {} Tryz.checked os 11 .any ((OpenSpec.ofChange Rows.fnExactNamesInSpec).preRow enc Tryz.prog Tryz.f11 Rows.fnExactNamesInRow.domain false Rows.fnExactNamesInRow.laid) (((OpenSpec.ofChange Rows.fnExactNamesInSpec).at F).post enc Tryz.prog Tryz.f11 false true false false) := by
 obtain ⟨places, hx⟩ := reads os enc
 refine returnsInHanded_of_row (C := Tryz.checked) (s := OpenSpec.ofChange Rows.fnExactNamesInSpec) own started (by kernel_rfl) Tryz.func11
  (witness_row_at (enc := enc) (C := Tryz.checked) false (laidWorld os) #[.agg #[.string ByteArray.empty, .int .i64 0, .slice none 0 0]] rfl (by kernel_rfl) (by kernel_rfl) (by kernel_rfl)
   (OpenSpec.preRow_of_cond 8 hx (by kernel_rfl) (fun k hk => by cases hk) (by kernel_rfl) (laid_met os))) ?_
 intro W base args ds gs before hval hW _ _ hsz hL _ _
 exact contract H enc W base args ds gs before hval hW hsz hL
theorem said : Rows.FnExactNamesInSaid :=
 OpenClaim.holds_of_cond 11 Tryz.f11 rfl rfl rfl rfl rfl rfl rfl ⟨rfl, rfl, rfl, rfl, rfl⟩ rfl rfl rfl rfl rfl (by kernel_rfl) Tryz.func11 (by kernel_rfl)
  (of_decide_eq_true (by kernel_rfl)) (by unfold Func.isWrapper; first | (rw [if_pos (by decide +kernel)]; kernel_rfl) | (rw [if_neg (by decide +kernel)]; exact ⟨rfl, rfl⟩))
  (fun os started H enc _ F => by rw [OpenClaim.pre_eq_preRow]; exact lifted os started H enc F)
theorem wants : Tryz.f11.params.toList.all (fun t => Tryz.prog.wantsStandIn t == false) = true := by kernel_rfl
theorem plain (f : FuncId) (fn : Func) (hf : Tryz.pinned.checked.prog.funcNamed "loop.example/g00300/laws.FnExactNamesIn" = some f) (hfn : Tryz.pinned.checked.prog.funcs[f]? = some fn) :
 true = Tryz.pinned.checked.prog.looks [] ∧ ∀ (j : Nat) t, fn.params[j]? = some t → Tryz.pinned.checked.prog.wantsStandIn t = false := by
 obtain rfl : f = 11 := Option.some.inj ((show Tryz.prog.funcNamed "loop.example/g00300/laws.FnExactNamesIn" = some 11 by kernel_rfl).symm.trans hf) |>.symm
 obtain rfl : fn = Tryz.f11 := (Option.some.inj (Tryz.func11.symm.trans hfn)).symm
 refine ⟨by kernel_rfl, fun j t ht => ?_⟩
 exact eq_of_beq (List.all_eq_true.1 wants t (Array.mem_toList_iff.2 (Array.mem_of_getElem? ht)))
theorem proved : Rows.FnExactNamesInCardSaid :=
 Claim7.holds_tied_plain_at .later [] _ _ _ _ said (fun _ h => by cases h) (by kernel_rfl) (fun _ h => by cases h) fnExactNamesIn_row_tie rfl ⟨rfl, rfl⟩ (by kernel_rfl) rfl plain (by kernel_rfl)
#print axioms proved
end Go.Proofs.YtkpkfallgjdkmaaGreatDoor.fnExactNamesIn
namespace Go.Proofs.YtkpkfallgjdkmaaGreatDoor
theorem fnExactNamesIn_holds : Rows.FnExactNamesInCardSaid := fnExactNamesIn.proved
end Go.Proofs.YtkpkfallgjdkmaaGreatDoor
