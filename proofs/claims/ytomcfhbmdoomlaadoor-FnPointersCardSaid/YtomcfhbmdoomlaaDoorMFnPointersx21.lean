/- FnPointers: part 22 of 27 of my texts for this claim, joined; the theorem stands in the last. Conditions: none beyond the statement's. -/
import Derived.Test.YtomcfhbmdoomlaaDoorMFnPointersx5
import Derived.Test.YtomcfhbmdoomlaaDoorMFnPointersx7
import Derived.Test.YtomcfhbmdoomlaaDoorMFnPointersx8
import Derived.Test.YtomcfhbmdoomlaaDoorMFnPointersx6
import Derived.Test.YtomcfhbmdoomlaaDoorMFnPointersx2
import Derived.Test.YtomcfhbmdoomlaaDoorMFnPointersx10
import Derived.Test.YtomcfhbmdoomlaaDoorMFnPointersx11
-- PureTakeI
/- The steps of impl.takeName and spec.l2Take, one equation each. Conditions: the text is short. -/
namespace Go.Proofs.YtomcfhbmdoomlaaDoor.Pure
open Go.RowKit Go.Proofs.YtomcfhbmdoomlaaDoor.P Go.Proofs.YtomcfhbmdoomlaaDoorW.PrintWords Go.Proofs.YtomcfhbmdoomlaaDoorW.PrintLast
set_option linter.unusedVariables false
set_option linter.unusedSimpArgs false
set_option linter.unusedSectionVars false

theorem bt_mkB (x : List UInt8) (i : Nat) (h : i < x.length) : bt (mkB x) (i : Int) = ((x[i]).toNat : Int) := by
  rw [bt_list _ i (by rw [mkB_data]; exact h)]
  have : ∀ (l : List UInt8) (hl : l = x) (h1 : i < l.length), l[i] = x[i] := by rintro l rfl h1; rfl
  rw [this _ (mkB_data x)]
def failI : ByteArray × List Int × Int × Bool := ((⟨#[]⟩ : ByteArray), ([] : List Int), 0, false)
def failS : ByteArray × Int × List Int × Bool := ((⟨#[]⟩ : ByteArray), 0, ([] : List Int), false)
/-- The byte at a place. -/
def byteAt (s : ByteArray) (a : Nat) : Nat := (bt s (a : Int)).toNat
theorem byteAt_bt (s : ByteArray) (a : Nat) : bt s (a : Int) = (byteAt s a : Int) := by
  have := bt_range s (a : Int)
  unfold byteAt
  omega
theorem byteAt_lt (s : ByteArray) (a : Nat) : byteAt s a ≤ 255 := by
  have := bt_range s (a : Int)
  unfold byteAt
  omega
theorem wN (n : Nat) (h : n < 4611686018427387904) : wrap64 (n : Int) = (n : Int) := by unfold wrap64; omega
def endOf (e : Int) (x : Nat) : Int := if e < 0 then (x : Int) else e
def plc (e : Int) (l : List Int) (a : Nat) : List Int := if e < 0 then l ++ [(a : Int)] else l
def ptrOf (s : ByteArray) (a : Nat) : Nat := (byteAt s a - 192) * 256 + byteAt s (a + 1)

section
variable (s : ByteArray) (hs : s.size ≤ 600)
include hs

theorem impl_out (k a : Nat) (L : List ByteArray) (p : List Int) (le e : Int) (h : s.size ≤ a ∨ 8 < L.length) : impl_takeName.l0 (k + 2) s (a : Int) L p le e = some failI := by
  have hj : impl_takeName.l0 (k + 2) s (a : Int) L p le e = impl_takeName.j1 (k + 1) s (a : Int) L p le e false := by
    conv => lhs; unfold impl_takeName.l0
    by_cases h1 : (a : Int) < (s.size : Int)
    · rw [if_pos h1, decide_eq_false (by omega)]
    · rw [if_neg h1]
  rw [hj]
  unfold impl_takeName.j1
  rw [if_neg (by simp)]
  rfl
theorem impl_in (k a : Nat) (L : List ByteArray) (p : List Int) (le e : Int) (h1 : a < s.size) (h2 : L.length ≤ 8) : impl_takeName.l0 (k + 2) s (a : Int) L p le e = impl_takeName.j1 (k + 1) s (a : Int) L p le e true := by
  conv => lhs; unfold impl_takeName.l0
  rw [if_pos (by omega), decide_eq_true (by omega)]
theorem impl_end (k a : Nat) (L : List ByteArray) (p : List Int) (le e : Int) (h1 : a < s.size) (h2 : L.length ≤ 8) (hv : byteAt s a = 0) :
    impl_takeName.l0 (k + 2) s (a : Int) L p le e = some ((nameR L).1, p, endOf e (a + 1), (nameR L).2) := by
  rw [impl_in s hs k a L p le e h1 h2]
  unfold impl_takeName.j1 endOf impl_NameOf.f
  rw [if_pos rfl, if_pos (by omega), if_pos (by omega), byteAt_bt, wN _ (by have := byteAt_lt s a; omega), hv, if_pos (by rfl), w64n (by omega)]
  by_cases he : e < 0
  · rw [if_pos he, if_pos he]; rfl
  · rw [if_neg he, if_neg he]; rfl
theorem impl_ptr_out (k a : Nat) (L : List ByteArray) (p : List Int) (le e : Int) (h1 : a < s.size) (h2 : L.length ≤ 8) (hv : 192 ≤ byteAt s a) (h3 : s.size ≤ a + 1) :
    impl_takeName.l0 (k + 2) s (a : Int) L p le e = some failI := by
  rw [impl_in s hs k a L p le e h1 h2]
  unfold impl_takeName.j1
  rw [if_pos rfl, if_pos (by omega), if_pos (by omega), byteAt_bt, wN _ (by have := byteAt_lt s a; omega), if_neg (by omega), if_pos (by omega), w64n (by omega), if_pos (by omega)]
  rfl
theorem impl_ptr (k a : Nat) (L : List ByteArray) (p : List Int) (le e : Int) (h1 : a < s.size) (h2 : L.length ≤ 8) (hv : 192 ≤ byteAt s a) (h3 : a + 1 < s.size) :
    impl_takeName.l0 (k + 2) s (a : Int) L p le e = if ((ptrOf s a : Nat) : Int) ≥ le then some failI else impl_takeName.l0 k s ((ptrOf s a : Nat) : Int) L p ((ptrOf s a : Nat) : Int) (endOf e (a + 2)) := by
  rw [impl_in s hs k a L p le e h1 h2]
  have b1 := byteAt_lt s a
  have b2 := byteAt_lt s (a + 1)
  have hw2 : wrap64 ((a : Int) + 2) = ((a + 2 : Nat) : Int) := by unfold wrap64; omega
  have hp : wrap64 ((wrap64 ((Int.tmod (byteAt s a : Int) 64) * 256)) + (byteAt s (a + 1) : Int)) = ((ptrOf s a : Nat) : Int) := by
    unfold ptrOf
    rw [Int.tmod_eq_emod_of_nonneg (by omega)]
    unfold wrap64
    omega
  conv => lhs; unfold impl_takeName.j1
  rw [if_pos rfl, if_pos (by omega), if_pos (by omega), byteAt_bt, wN _ (by omega), if_neg (by omega), if_pos (by omega), w64n (by omega), if_neg (by omega), byteAt_bt, wN (byteAt s (a + 1)) (by omega), hp, hw2]
  unfold endOf
  by_cases he : e < 0
  · rw [if_pos he, if_pos he, if_pos (by omega), if_pos (by omega)]; rfl
  · rw [if_neg he, if_neg he, if_pos (by omega), if_pos (by omega)]; rfl
theorem impl_lab_out (k a : Nat) (L : List ByteArray) (p : List Int) (le e : Int) (h1 : a < s.size) (h2 : L.length ≤ 8) (hv : 0 < byteAt s a) (hv2 : byteAt s a < 192) (h3 : 64 ≤ byteAt s a ∨ s.size < a + 1 + byteAt s a) :
    impl_takeName.l0 (k + 3) s (a : Int) L p le e = some failI := by
  rw [impl_in s hs (k + 1) a L p le e h1 h2]
  have b1 := byteAt_lt s a
  have hw2 : wrap64 (((a + 1 : Nat) : Int) + (byteAt s a : Int)) = ((a + 1 + byteAt s a : Nat) : Int) := by unfold wrap64; omega
  have hj : impl_takeName.j1 (k + 2) s (a : Int) L p le e true = impl_takeName.j2 (k + 1) s (a : Int) L p le e (byteAt s a : Int) true := by
    conv => lhs; unfold impl_takeName.j1
    rw [if_pos rfl, if_pos (by omega), if_pos (by omega), byteAt_bt, wN _ (by omega), if_neg (by omega), if_neg (by omega)]
    by_cases h64 : (byteAt s a : Int) ≥ 64
    · rw [if_pos h64]
    · rw [if_neg h64, w64n (by omega), hw2, decide_eq_true (by omega)]
  rw [hj]
  unfold impl_takeName.j2
  rw [if_pos rfl]
  rfl
theorem impl_lab (k a : Nat) (L : List ByteArray) (p : List Int) (le e : Int) (h1 : a < s.size) (h2 : L.length ≤ 8) (hp : p.length < 17592186044416) (hv : 0 < byteAt s a) (hv2 : byteAt s a < 64) (h3 : a + 1 + byteAt s a ≤ s.size) :
    impl_takeName.l0 (k + 3) s (a : Int) L p le e = impl_takeName.l0 k s ((a + 1 + byteAt s a : Nat) : Int) (L ++ [mkB (((s.data.toList.drop (a + 1)).take (byteAt s a)).map lowB)]) (plc e p a) le e := by
  rw [impl_in s hs (k + 1) a L p le e h1 h2]
  have hw2 : wrap64 (((a + 1 : Nat) : Int) + (byteAt s a : Int)) = ((a + 1 + byteAt s a : Nat) : Int) := by unfold wrap64; omega
  have hw3 : wrap64 ((a : Int) + (wrap64 (1 + (byteAt s a : Int)))) = ((a + 1 + byteAt s a : Nat) : Int) := by unfold wrap64; omega
  have hj : impl_takeName.j1 (k + 2) s (a : Int) L p le e true = impl_takeName.j2 (k + 1) s (a : Int) L p le e (byteAt s a : Int) false := by
    conv => lhs; unfold impl_takeName.j1
    rw [if_pos rfl, if_pos (by omega), if_pos (by omega), byteAt_bt, wN _ (by omega), if_neg (by omega), if_neg (by omega), if_neg (by omega), w64n (by omega), hw2, decide_eq_false (by omega)]
  rw [hj]
  have hsm : impl_small.f (s.extract (a + 1) (a + 1 + byteAt s a)) = some (mkB (((s.data.toList.drop (a + 1)).take (byteAt s a)).map lowB)) := by
    unfold impl_small.f
    rw [if_pos (by rw [ext_mkB, mkB_size, List.length_take]; omega), ext_mkB, mkB_data, show a + 1 + byteAt s a - (a + 1) = byteAt s a by omega]
  conv => lhs; unfold impl_takeName.j2
  unfold plc
  rw [if_neg (by simp), w64n (by omega), hw2, hw3, Int.toNat_natCast, Int.toNat_natCast, hsm]
  simp only [Option.bind_some]
  by_cases he : e < 0
  · rw [if_pos he, if_pos he, if_pos hp, if_pos (by omega), if_pos (by omega), if_pos (by omega), if_pos (by omega)]
  · rw [if_neg he, if_neg he, if_pos (by omega), if_pos (by omega), if_pos (by omega), if_pos (by omega)]

theorem spec_out (k a : Nat) (L : List ByteArray) (p : List Int) (le e : Int) (h : s.size ≤ a ∨ 8 < L.length) : spec_l2Take.l0 (k + 1) s (a : Int) L p le e = some failS := by
  conv => lhs; unfold spec_l2Take.l0
  by_cases h1 : (L.length : Int) ≤ 8
  · rw [if_pos h1, if_pos (by omega)]; rfl
  · rw [if_neg h1]; rfl
theorem spec_ptr_out (k a : Nat) (L : List ByteArray) (p : List Int) (le e : Int) (h1 : a < s.size) (h2 : L.length ≤ 8) (hv : 192 ≤ byteAt s a) (h3 : s.size ≤ a + 1) :
    spec_l2Take.l0 (k + 1) s (a : Int) L p le e = some failS := by
  conv => lhs; unfold spec_l2Take.l0
  rw [if_pos (by omega), if_neg (by omega), if_pos (by omega), if_pos (by omega), byteAt_bt, wN _ (by have := byteAt_lt s a; omega), if_pos (by omega), w64n (by omega), if_pos (by omega)]
  rfl
theorem spec_ptr (k a : Nat) (L : List ByteArray) (p : List Int) (le e : Int) (h1 : a < s.size) (h2 : L.length ≤ 8) (hv : 192 ≤ byteAt s a) (h3 : a + 1 < s.size) :
    spec_l2Take.l0 (k + 1) s (a : Int) L p le e = if ((ptrOf s a : Nat) : Int) ≥ le then some failS else spec_l2Take.l0 k s ((ptrOf s a : Nat) : Int) L p ((ptrOf s a : Nat) : Int) (endOf e (a + 2)) := by
  have b1 := byteAt_lt s a
  have b2 := byteAt_lt s (a + 1)
  have hw2 : wrap64 ((a : Int) + 2) = ((a + 2 : Nat) : Int) := by unfold wrap64; omega
  have hp : wrap64 ((wrap64 ((wrap64 ((byteAt s a : Int) - 192)) * 256)) + (byteAt s (a + 1) : Int)) = ((ptrOf s a : Nat) : Int) := by
    unfold ptrOf
    unfold wrap64
    omega
  conv => lhs; unfold spec_l2Take.l0
  rw [if_pos (by omega), if_neg (by omega), if_pos (by omega), if_pos (by omega), byteAt_bt, wN _ (by omega), if_pos (by omega), w64n (by omega), if_neg (by omega), byteAt_bt, wN (byteAt s (a + 1)) (by omega), hp, hw2]
  unfold endOf
  by_cases he : e < 0
  · rw [if_pos he, if_pos he, if_pos (by omega), if_pos (by omega)]; rfl
  · rw [if_neg he, if_neg he, if_pos (by omega), if_pos (by omega)]; rfl
theorem spec_lab_out (k a : Nat) (L : List ByteArray) (p : List Int) (le e : Int) (h1 : a < s.size) (h2 : L.length ≤ 8) (hv : 0 < byteAt s a) (hv2 : byteAt s a < 192) (h3 : 20 < byteAt s a ∨ s.size < a + 1 + byteAt s a) :
    spec_l2Take.l0 (k + 2) s (a : Int) L p le e = some failS := by
  have b1 := byteAt_lt s a
  have hw2 : wrap64 (((a + 1 : Nat) : Int) + (byteAt s a : Int)) = ((a + 1 + byteAt s a : Nat) : Int) := by unfold wrap64; omega
  have hj : spec_l2Take.l0 (k + 2) s (a : Int) L p le e = spec_l2Take.j1 (k + 1) s (a : Int) L p le e (byteAt s a : Int) true := by
    conv => lhs; unfold spec_l2Take.l0
    rw [if_pos (by omega), if_neg (by omega), if_pos (by omega), if_pos (by omega), byteAt_bt, wN _ (by omega), if_neg (by omega), if_neg (by omega)]
    by_cases h20 : (byteAt s a : Int) > 20
    · rw [if_pos h20]
    · rw [if_neg h20, w64n (by omega), hw2, decide_eq_true (by omega)]
  rw [hj]
  unfold spec_l2Take.j1
  rw [if_pos rfl]
  rfl
/-- The label that stands at a place. -/
def rawL (s : ByteArray) (a : Nat) : List UInt8 := (s.data.toList.drop (a + 1)).take (byteAt s a)
omit hs in
theorem dots_step (a : Nat) (L : List ByteArray) (p : List Int) (le e : Int) (x : List UInt8) (hx : x.length ≤ 1000) (i : Nat) (hi : i < x.length) (k : Nat) :
    spec_l2Take.l1 (k + 1) s (a : Int) L p le e (x.length : Int) (mkB x) (i : Int) = if x[i] = 46 then some failS else spec_l2Take.l1 k s (a : Int) L p le e (x.length : Int) (mkB x) ((i + 1 : Nat) : Int) := by
  conv => lhs; unfold spec_l2Take.l1
  rw [if_pos (by omega), if_pos (by omega), if_pos (by rw [mkB_size]; omega), bt_mkB x i hi, w64n (by omega)]
  generalize x[i] = c
  by_cases h : c = 46
  · rw [if_pos h, if_pos (by rw [h]; rfl)]; rfl
  · rw [if_neg h, if_neg (by intro e; apply h; apply UInt8.toNat_inj.1; simpa using Int.ofNat.inj e)]
omit hs in
theorem dots_none (a : Nat) (L : List ByteArray) (p : List Int) (le e : Int) (x : List UInt8) (hx : x.length ≤ 1000) (hL : L.length ≤ 8) : ∀ (m i : Nat), i + m = x.length → (∀ y ∈ x.drop i, y ≠ 46) →
    ∀ r, Ev (fun k => spec_l2Take.l0 k s (wrap64 ((a : Int) + (wrap64 (1 + (x.length : Int))))) (L ++ [mkB x]) p le e) r → Ev (fun k => spec_l2Take.l1 k s (a : Int) L p le e (x.length : Int) (mkB x) (i : Int)) r
  | 0, i, him, hd, r, hr => by
    refine Ev.step (fun k => ?_) hr
    show spec_l2Take.l1 (k + 1) s (a : Int) L p le e (x.length : Int) (mkB x) (i : Int) = _
    conv => lhs; unfold spec_l2Take.l1
    rw [if_neg (by omega), if_pos (by omega)]
  | m + 1, i, him, hd, r, hr => by
    rw [List.drop_eq_getElem_cons (by omega)] at hd
    exact Ev.step (fun k => by rw [dots_step s a L p le e x hx i (by omega), if_neg (hd _ List.mem_cons_self)]) (dots_none a L p le e x hx hL m (i + 1) (by omega) (fun y hy => hd y (List.mem_cons_of_mem _ hy)) r hr)
omit hs in
theorem dots_some (a : Nat) (L : List ByteArray) (p : List Int) (le e : Int) (x : List UInt8) (hx : x.length ≤ 1000) (hL : L.length ≤ 8) : ∀ (m i : Nat), i + m = x.length → (∃ y ∈ x.drop i, y = 46) →
    Ev (fun k => spec_l2Take.l1 k s (a : Int) L p le e (x.length : Int) (mkB x) (i : Int)) failS
  | 0, i, him, ⟨y, hy, _⟩ => by
    rw [List.drop_of_length_le (by omega)] at hy
    cases hy
  | m + 1, i, him, hd => by
    by_cases h : x[i]'(by omega) = 46
    · exact Ev.step (f := fun _ => some failS) (fun k => by rw [dots_step s a L p le e x hx i (by omega), if_pos h]) (Ev.now _)
    · rw [List.drop_eq_getElem_cons (by omega)] at hd
      obtain ⟨y, hy, e1⟩ := hd
      rcases List.mem_cons.1 hy with rfl | hy
      · exact absurd e1 h
      · exact Ev.step (fun k => by rw [dots_step s a L p le e x hx i (by omega), if_neg h]) (dots_some a L p le e x hx hL m (i + 1) (by omega) ⟨y, hy, e1⟩)
theorem spec_lab (a : Nat) (L : List ByteArray) (p : List Int) (le e : Int) (h1 : a < s.size) (h2 : L.length ≤ 8) (hp : p.length < 17592186044416) (hv : 0 < byteAt s a) (hv2 : byteAt s a ≤ 20) (h3 : a + 1 + byteAt s a ≤ s.size) :
    Ev (fun k => spec_l2Take.l0 k s (a : Int) L p le e) failS ∧ (∃ y ∈ rawL s a, y = 46) ∨
    ((∀ y ∈ rawL s a, y ≠ 46) ∧ ∀ r, Ev (fun k => spec_l2Take.l0 k s ((a + 1 + byteAt s a : Nat) : Int) (L ++ [mkB (rawL s a)]) (plc e p a) le e) r → Ev (fun k => spec_l2Take.l0 k s (a : Int) L p le e) r) := by
  have hw2 : wrap64 (((a + 1 : Nat) : Int) + (byteAt s a : Int)) = ((a + 1 + byteAt s a : Nat) : Int) := by unfold wrap64; omega
  have hw3 : wrap64 ((a : Int) + (wrap64 (1 + (byteAt s a : Int)))) = ((a + 1 + byteAt s a : Nat) : Int) := by unfold wrap64; omega
  have hlen : (rawL s a).length = byteAt s a := by unfold rawL; rw [List.length_take, List.length_drop, ← size_len]; omega
  have hstep : ∀ k, spec_l2Take.l0 (k + 3) s (a : Int) L p le e = spec_l2Take.l1 k s (a : Int) L (plc e p a) le e ((rawL s a).length : Int) (mkB (rawL s a)) 0 := by
    intro k
    have hj : spec_l2Take.l0 (k + 3) s (a : Int) L p le e = spec_l2Take.j1 (k + 2) s (a : Int) L p le e (byteAt s a : Int) false := by
      conv => lhs; unfold spec_l2Take.l0
      rw [if_pos (by omega), if_neg (by omega), if_pos (by omega), if_pos (by omega), byteAt_bt, wN _ (by omega), if_neg (by omega), if_neg (by omega), if_neg (by omega), w64n (by omega), hw2, decide_eq_false (by omega)]
    have hj2 : spec_l2Take.j1 (k + 2) s (a : Int) L p le e (byteAt s a : Int) false = spec_l2Take.j2 (k + 1) s (a : Int) L (plc e p a) le e (byteAt s a : Int) := by
      conv => lhs; unfold spec_l2Take.j1
      unfold plc
      rw [if_neg (by simp)]
      by_cases he : e < 0
      · rw [if_pos he, if_pos he, if_pos hp]
      · rw [if_neg he, if_neg he]
    rw [hj, hj2]
    conv => lhs; unfold spec_l2Take.j2
    rw [w64n (by omega), hw2, if_pos (by omega), if_pos (by omega), if_pos (by omega), Int.toNat_natCast, Int.toNat_natCast, ext_mkB, hlen, show a + 1 + byteAt s a - (a + 1) = byteAt s a by omega]
    rfl
  have lift : ∀ r, Ev (fun k => spec_l2Take.l1 k s (a : Int) L (plc e p a) le e ((rawL s a).length : Int) (mkB (rawL s a)) ((0 : Nat) : Int)) r → Ev (fun k => spec_l2Take.l0 k s (a : Int) L p le e) r := by
    intro r hr
    obtain ⟨K, hK⟩ := hr
    exact ⟨K + 3, fun k hk => by
      obtain ⟨j, rfl⟩ : ∃ j, k = j + 3 := ⟨k - 3, by omega⟩
      show spec_l2Take.l0 (j + 3) s (a : Int) L p le e = _
      rw [hstep]
      exact hK j (by omega)⟩
  by_cases hd : ∃ y ∈ rawL s a, y = 46
  · exact .inl ⟨lift _ (dots_some s a L (plc e p a) le e (rawL s a) (by omega) h2 (rawL s a).length 0 (by omega) hd), hd⟩
  · have hd' : ∀ y ∈ rawL s a, y ≠ 46 := fun y hy e1 => hd ⟨y, hy, e1⟩
    refine .inr ⟨hd', fun r hr => lift r (dots_none s a L (plc e p a) le e (rawL s a) (by omega) h2 (rawL s a).length 0 (by omega) hd' r ?_)⟩
    rw [hlen, hw3]
    exact hr
end
end Go.Proofs.YtomcfhbmdoomlaaDoor.Pure

-- PureTake
/- Taking a name: the reference and the program return the same. Conditions: the text is short. -/
namespace Go.Proofs.YtomcfhbmdoomlaaDoor.Pure
open Go.RowKit Go.Proofs.YtomcfhbmdoomlaaDoor.P Go.Proofs.YtomcfhbmdoomlaaDoorW.PrintWords Go.Proofs.YtomcfhbmdoomlaaDoorW.PrintLast
set_option linter.unusedVariables false
set_option linter.unusedSimpArgs false
set_option linter.unusedSectionVars false

theorem tail_cons (y : List UInt8) (r : List (List UInt8)) : Lib.joinTail [46] (y :: r) = 46 :: (y ++ Lib.joinTail [46] r) := by simp [Lib.joinTail]
theorem join_loop (L : List ByteArray) (hL : ∀ x ∈ L, x.size ≤ 1000) (hn : L.length ≤ 1000) : ∀ (m i : Nat) (acc : ByteArray), i + m = L.length → 0 < i → acc.size + m * 1100 < 1099511627776 →
    Ev (fun k => spec_l1Join.l0 k acc L (L.length : Int) (i : Int)) (mkB (acc.data.toList ++ Lib.joinTail [46] ((L.drop i).map (·.data.toList))))
  | 0, i, acc, him, hi, ha => by
    refine Ev.step (f := fun _ => some acc) (fun k => ?_) ?_
    · show spec_l1Join.l0 (k + 1) acc L (L.length : Int) (i : Int) = _
      conv => lhs; unfold spec_l1Join.l0
      rw [if_neg (by omega)]
    · rw [List.drop_of_length_le (by omega)]
      simp only [List.map_nil, show Lib.joinTail [46] ([] : List (List UInt8)) = [] from rfl, List.append_nil, data_mkB]
      exact Ev.now _
  | m + 1, i, acc, him, hi, ha => by
    have hil : i < L.length := by omega
    have hrd : rdOf ByteArray.empty L (i : Int) = L[i] := by
      unfold rdOf
      rw [Int.toNat_natCast, List.getD_eq_getElem?_getD, List.getElem?_eq_getElem hil]
      rfl
    have hsz := hL _ (List.getElem_mem hil)
    have h46 : (⟨#[46]⟩ : ByteArray).size = 1 := rfl
    have ih := join_loop L hL hn m (i + 1) ((acc ++ (⟨#[46]⟩ : ByteArray)) ++ L[i]) (by omega) (by omega) (by rw [ByteArray.size_append, ByteArray.size_append, h46]; omega)
    have e : acc.data.toList ++ Lib.joinTail [46] ((L.drop i).map (·.data.toList)) = ((acc ++ (⟨#[46]⟩ : ByteArray)) ++ L[i]).data.toList ++ Lib.joinTail [46] ((L.drop (i + 1)).map (·.data.toList)) := by
      rw [List.drop_eq_getElem_cons hil, List.map_cons, tail_cons]
      simp [ByteArray.data_append]
    rw [e]
    refine Ev.step (fun k => ?_) ih
    show spec_l1Join.l0 (k + 1) acc L (L.length : Int) (i : Int) = _
    conv => lhs; unfold spec_l1Join.l0
    rw [if_pos (by omega), if_pos (by omega), if_pos (by omega), if_pos (by omega), hrd, if_pos (by omega), if_pos (by rw [ByteArray.size_append, h46]; omega), w64n (by omega)]
theorem join_ev (L : List ByteArray) (hL : ∀ x ∈ L, x.size ≤ 1000) (hn : L.length ≤ 1000) : Ev (fun k => spec_l1Join.f k L) (mkB (joinL L)) := by
  cases L with
  | nil =>
    refine Ev.of (fun k => spec_l1Join.mono _ _) (k := 1) ?_
    unfold spec_l1Join.f
    conv => lhs; unfold spec_l1Join.l0
    rw [if_neg (by simp)]
    rfl
  | cons x r =>
    have hx := hL x List.mem_cons_self
    have h0 : (⟨#[]⟩ : ByteArray) ++ x = x := by apply ext_data; simp [ByteArray.data_append]
    have := join_loop (x :: r) hL hn r.length 1 x (by simp; omega) (by omega) (by simp at hn; omega)
    have e : joinL (x :: r) = x.data.toList ++ Lib.joinTail [46] (((x :: r).drop 1).map (·.data.toList)) := by
      unfold joinL
      rw [List.map_cons, Lib.join_cons]
      rfl
    rw [e]
    refine Ev.congr (fun k => rfl) (Ev.step (fun k => ?_) this)
    show spec_l1Join.l0 (k + 1) (⟨#[]⟩ : ByteArray) (x :: r) ((x :: r).length : Int) 0 = _
    conv => lhs; unfold spec_l1Join.l0
    have hrd : rdOf ByteArray.empty (x :: r) 0 = x := rfl
    have hz : (⟨#[]⟩ : ByteArray).size = 0 := rfl
    rw [if_pos (by simp only [List.length_cons]; omega), if_pos (by omega), if_pos (by simp only [List.length_cons]; omega), if_neg (by omega), hrd, if_pos (by rw [hz]; omega), h0, show wrap64 ((0 : Int) + 1) = ((1 : Nat) : Int) by unfold wrap64; omega]

/-- A label made small. -/
def smB (x : ByteArray) : ByteArray := mkB (x.data.toList.map lowB)
def InvL (L : List ByteArray) : Prop := ∀ x ∈ L, 1 ≤ x.size ∧ x.size ≤ 20 ∧ ∀ y ∈ x.data.toList, y ≠ 46
theorem low46 (b : UInt8) : lowB b = 46 ↔ b = 46 := by
  have : ∀ n : Fin 256, lowB (UInt8.ofFin n) = 46 ↔ UInt8.ofFin n = 46 := by decide +kernel
  exact this b.toFin
theorem joinL_low (L : List ByteArray) : joinL (L.map smB) = (joinL L).map lowB := by
  have ht : ∀ r : List ByteArray, Lib.joinTail [46] ((r.map smB).map (·.data.toList)) = (Lib.joinTail [46] (r.map (·.data.toList))).map lowB := by
    intro r
    induction r with
    | nil => rfl
    | cons y r ih =>
      rw [List.map_cons, List.map_cons, List.map_cons, tail_cons, tail_cons, ih]
      simp [smB, mkB_data, (low46 46).2 rfl]
  unfold joinL
  cases L with
  | nil => rfl
  | cons x r =>
    rw [List.map_cons, List.map_cons, List.map_cons, Lib.join_cons, Lib.join_cons, ht, List.map_append]
    simp [smB, mkB_data]
theorem split_join (L : List (List UInt8)) (hne : L ≠ []) (h : ∀ x ∈ L, ∀ y ∈ x, y ≠ 46) : splitL 46 (Lib.join L [46]) = L := by
  induction L with
  | nil => exact absurd rfl hne
  | cons x r ih =>
    rw [Lib.join_cons]
    cases r with
    | nil =>
      rw [show Lib.joinTail [46] ([] : List (List UInt8)) = [] from rfl, List.append_nil]
      exact splitL_none 46 x (h x List.mem_cons_self)
    | cons y r =>
      rw [tail_cons, splitL_hit 46 x _ (h x List.mem_cons_self), ← Lib.join_cons, ih (by simp) fun z hz => h z (List.mem_cons_of_mem _ hz)]
theorem fin_eq (L : List ByteArray) (hI : InvL L) : foldR (mkB (joinL L)) = nameR (L.map smB) := by
  unfold foldR nameR
  rw [mkB_data, mkB_size, joinL_low]
  have key : goodL ((joinL L).map lowB) = true → (joinL L).length ≤ 60 ∧ (decide ((L.map smB).length ≤ 8) && (L.map smB).all (fun x => isLabelL x.data.toList)) = true := by
    intro hg
    have h1 := good_size hg
    rw [List.length_map] at h1
    refine ⟨h1, ?_⟩
    unfold goodL at hg
    have hl : labelsL ((joinL L).map lowB) = (L.map smB).map (·.data.toList) := by
      cases L with
      | nil => rfl
      | cons x r =>
        have hx := hI x List.mem_cons_self
        have hne : (joinL (x :: r)).map lowB ≠ [] := by
          unfold joinL
          rw [List.map_cons, Lib.join_cons]
          intro e
          have e2 := congrArg List.length e
          rw [List.length_map, List.length_append, ← size_len, List.length_nil] at e2
          have := hx.1
          omega
        unfold labelsL
        rw [if_neg hne, ← joinL_low]
        unfold joinL
        refine split_join _ (by simp) ?_
        intro z hz y hy
        obtain ⟨q, hq, rfl⟩ := List.mem_map.1 hz
        obtain ⟨q2, hq2, rfl⟩ := List.mem_map.1 hq
        simp only [smB, mkB_data] at hy
        obtain ⟨b, hb, rfl⟩ := List.mem_map.1 hy
        rw [Ne, low46]
        exact (hI q2 hq2).2.2 b hb
    rw [hl] at hg
    simp only [Bool.and_eq_true, List.length_map, List.all_map] at hg ⊢
    exact hg.2
  by_cases hg : goodL ((joinL L).map lowB) = true
  · obtain ⟨h1, h2⟩ := key hg
    rw [if_pos h1, if_pos hg, if_pos h2]
  · rw [if_neg hg]
    split <;> split <;> rfl

section
variable (s : ByteArray) (hs : s.size ≤ 600)
include hs
theorem doomed : ∀ (n a : Nat) (L : List ByteArray) (p : List Int) (le : Nat) (e : Int), le * 10 + (9 - L.length) ≤ n → L.length ≤ 9 → p.length ≤ L.length → (∃ x ∈ L, isLabelL x.data.toList = false) →
    ∃ r, Ev (fun k => impl_takeName.l0 k s (a : Int) L p (le : Int) e) r ∧ r.2.2.2 = false
  | n, a, L, p, le, e, hn, hL, hp, hx => by
    by_cases ho : s.size ≤ a ∨ 8 < L.length
    · exact ⟨failI, Ev.of (fun k => (impl_takeName.mono_l k).1 _ _ _ _ _ _) (impl_out s hs 0 a L p le e ho), rfl⟩
    · have h1 : a < s.size := by omega
      have h2 : L.length ≤ 8 := by omega
      by_cases v0 : byteAt s a = 0
      · refine ⟨_, Ev.of (fun k => (impl_takeName.mono_l k).1 _ _ _ _ _ _) (impl_end s hs 0 a L p le e h1 h2 v0), ?_⟩
        unfold nameR
        have hall : L.all (fun x => isLabelL x.data.toList) = false := by
          obtain ⟨x, hx1, hx2⟩ := hx
          rw [List.all_eq_false]
          exact ⟨x, hx1, by rw [hx2]; simp⟩
        rw [hall, Bool.and_false, if_neg (by simp)]
      · by_cases v1 : 192 ≤ byteAt s a
        · by_cases h3 : a + 1 < s.size
          · by_cases hle : ((ptrOf s a : Nat) : Int) ≥ (le : Int)
            · exact ⟨failI, Ev.of (fun k => (impl_takeName.mono_l k).1 _ _ _ _ _ _) ((impl_ptr s hs 0 a L p le e h1 h2 v1 h3).trans (if_pos hle)), rfl⟩
            · obtain ⟨r, g1, g2⟩ := doomed (n - 10) (ptrOf s a) L p (ptrOf s a) (endOf e (a + 2)) (by omega) hL hp hx
              exact ⟨r, Ev.step (fun k => rfl) (Ev.step (g := fun k => impl_takeName.l0 (k + 1) s (a : Int) L p (le : Int) e) (fun k => (impl_ptr s hs k a L p le e h1 h2 v1 h3).trans (if_neg hle)) g1), g2⟩
          · exact ⟨failI, Ev.of (fun k => (impl_takeName.mono_l k).1 _ _ _ _ _ _) (impl_ptr_out s hs 0 a L p le e h1 h2 v1 (by omega)), rfl⟩
        · by_cases h3 : 64 ≤ byteAt s a ∨ s.size < a + 1 + byteAt s a
          · exact ⟨failI, Ev.of (fun k => (impl_takeName.mono_l k).1 _ _ _ _ _ _) (impl_lab_out s hs 0 a L p le e h1 h2 (by omega) (by omega) h3), rfl⟩
          · obtain ⟨r, g1, g2⟩ := doomed (n - 1) (a + 1 + byteAt s a) (L ++ [mkB (((s.data.toList.drop (a + 1)).take (byteAt s a)).map lowB)]) (plc e p a) le e (by simp; omega) (by simp; omega) (by unfold plc; split <;> simp <;> omega) (by
              obtain ⟨x, hx1, hx2⟩ := hx
              exact ⟨x, List.mem_append_left _ hx1, hx2⟩)
            exact ⟨r, Ev.step (fun k => rfl) (Ev.step (fun k => rfl) (Ev.step (g := fun k => impl_takeName.l0 (k + 2) s (a : Int) L p (le : Int) e) (fun k => impl_lab s hs k a L p le e h1 h2 (by omega) (by omega) (by omega) (by omega)) g1)), g2⟩
  termination_by n => n
  decreasing_by all_goals omega

theorem sync : ∀ (n a : Nat) (L : List ByteArray) (p : List Int) (le : Nat) (e : Int) (a0 : Nat), le * 10 + (9 - L.length) ≤ n → L.length ≤ 9 → p.length ≤ L.length → InvL L → (e < 0 → a0 ≤ a) → (0 ≤ e → (a0 : Int) < e ∧ e ≤ (s.size : Int)) →
    ∃ r r', Ev (fun k => spec_l2Take.l0 k s (a : Int) L p (le : Int) e) r ∧ Ev (fun k => impl_takeName.l0 k s (a : Int) (L.map smB) p (le : Int) e) r' ∧ r.2.2.2 = r'.2.2.2 ∧
      (r.2.2.2 = true → r.1 = r'.1 ∧ r.2.1 = r'.2.2.1 ∧ r.2.2.1 = r'.2.1 ∧ (a0 : Int) < r.2.1 ∧ r.2.1 ≤ (s.size : Int) ∧ r.2.2.1.length ≤ 9)
  | n, a, L, p, le, e, a0, hn, hL, hp, hI, he1, he2 => by
    have hLs : (L.map smB).length = L.length := List.length_map ..
    by_cases ho : s.size ≤ a ∨ 8 < L.length
    · exact ⟨failS, failI, Ev.of (fun k => (spec_l2Take.mono_l k).1 _ _ _ _ _ _) (spec_out s hs 0 a L p le e ho), Ev.of (fun k => (impl_takeName.mono_l k).1 _ _ _ _ _ _) (impl_out s hs 0 a _ p le e (by omega)), rfl, fun h => by cases h⟩
    · have h1 : a < s.size := by omega
      have h2 : L.length ≤ 8 := by omega
      by_cases v0 : byteAt s a = 0
      · have hi := impl_end s hs 0 a (L.map smB) p le e h1 (by omega) v0
        refine ⟨((foldR (mkB (joinL L))).1, endOf e (a + 1), p, (foldR (mkB (joinL L))).2), _, ?_, Ev.of (fun k => (impl_takeName.mono_l k).1 _ _ _ _ _ _) hi, by rw [fin_eq L hI], fun _ => ⟨by rw [fin_eq L hI], rfl, rfl, ?_, ?_, by show p.length ≤ 9; omega⟩⟩
        · refine Ev.step (f := fun k => (spec_l1Join.f k L).bind fun t => (spec_FoldName.f t).bind fun bt119 => some (bt119.1, endOf e (a + 1), p, bt119.2)) (fun k => ?_) (Ev.bind (join_ev L (fun x hx => by have := (hI x hx).2.1; omega) (by omega)) (Ev.congr (f := fun _ => some ((foldR (mkB (joinL L))).1, endOf e (a + 1), p, (foldR (mkB (joinL L))).2)) (fun k => by unfold spec_FoldName.f; rfl) (Ev.now _)))
          show spec_l2Take.l0 (k + 1) s (a : Int) L p (le : Int) e = _
          conv => lhs; unfold spec_l2Take.l0
          rw [if_pos (by omega), if_neg (by omega), if_pos (by omega), if_pos (by omega), byteAt_bt, wN _ (by have := byteAt_lt s a; omega), v0, if_neg (by decide), if_pos (by rfl), w64n (by omega)]
          unfold endOf
          by_cases he : e < 0
          · rw [if_pos he, if_pos he]
          · rw [if_neg he, if_neg he]
        · show (a0 : Int) < endOf e (a + 1)
          unfold endOf
          split <;> omega
        · show endOf e (a + 1) ≤ (s.size : Int)
          unfold endOf
          split <;> omega
      · by_cases v1 : 192 ≤ byteAt s a
        · by_cases h3 : a + 1 < s.size
          · by_cases hle : ((ptrOf s a : Nat) : Int) ≥ (le : Int)
            · exact ⟨failS, failI, Ev.of (fun k => (spec_l2Take.mono_l k).1 _ _ _ _ _ _) ((spec_ptr s hs 0 a L p le e h1 h2 v1 h3).trans (if_pos hle)), Ev.of (fun k => (impl_takeName.mono_l k).1 _ _ _ _ _ _) ((impl_ptr s hs 0 a _ p le e h1 (by omega) v1 h3).trans (if_pos hle)), rfl, fun h => by cases h⟩
            · obtain ⟨r, r', g1, g2, g3⟩ := sync (n - 10) (ptrOf s a) L p (ptrOf s a) (endOf e (a + 2)) a0 (by omega) hL hp hI (by unfold endOf; split <;> omega) (by unfold endOf; split <;> omega)
              exact ⟨r, r', Ev.step (fun k => (spec_ptr s hs k a L p le e h1 h2 v1 h3).trans (if_neg hle)) g1, Ev.step (fun k => rfl) (Ev.step (g := fun k => impl_takeName.l0 (k + 1) s (a : Int) (L.map smB) p (le : Int) e) (fun k => (impl_ptr s hs k a _ p le e h1 (by omega) v1 h3).trans (if_neg hle)) g2), g3⟩
          · exact ⟨failS, failI, Ev.of (fun k => (spec_l2Take.mono_l k).1 _ _ _ _ _ _) (spec_ptr_out s hs 0 a L p le e h1 h2 v1 (by omega)), Ev.of (fun k => (impl_takeName.mono_l k).1 _ _ _ _ _ _) (impl_ptr_out s hs 0 a _ p le e h1 (by omega) v1 (by omega)), rfl, fun h => by cases h⟩
        · have hlb : ∀ (g : s.size ≥ a + 1 + byteAt s a), (rawL s a).length = byteAt s a := fun g => by unfold rawL; rw [List.length_take, List.length_drop, ← size_len]; omega
          by_cases h3 : 64 ≤ byteAt s a ∨ s.size < a + 1 + byteAt s a
          · exact ⟨failS, failI, Ev.of (fun k => (spec_l2Take.mono_l k).1 _ _ _ _ _ _) (spec_lab_out s hs 0 a L p le e h1 h2 (by omega) (by omega) (by omega)), Ev.of (fun k => (impl_takeName.mono_l k).1 _ _ _ _ _ _) (impl_lab_out s hs 0 a _ p le e h1 (by omega) (by omega) (by omega) h3), rfl, fun h => by cases h⟩
          · have hlen := hlb (by omega)
            have himpl : ∀ r, Ev (fun k => impl_takeName.l0 k s ((a + 1 + byteAt s a : Nat) : Int) (L.map smB ++ [mkB ((rawL s a).map lowB)]) (plc e p a) (le : Int) e) r → Ev (fun k => impl_takeName.l0 k s (a : Int) (L.map smB) p (le : Int) e) r := fun r g2 =>
              Ev.step (fun k => rfl) (Ev.step (fun k => rfl) (Ev.step (g := fun k => impl_takeName.l0 (k + 2) s (a : Int) (L.map smB) p (le : Int) e) (fun k => impl_lab s hs k a _ p le e h1 (by omega) (by omega) (by omega) (by omega) (by omega)) g2))
            have hpl : (plc e p a).length ≤ L.length + 1 := by
              unfold plc
              split
              · rw [List.length_append, List.length_singleton]; omega
              · omega
            have doom : isLabelL ((rawL s a).map lowB) = false → ∃ r, Ev (fun k => impl_takeName.l0 k s (a : Int) (L.map smB) p (le : Int) e) r ∧ r.2.2.2 = false := by
              intro hb
              obtain ⟨r, g1, g2⟩ := doomed s hs (n - 1) (a + 1 + byteAt s a) (L.map smB ++ [mkB ((rawL s a).map lowB)]) (plc e p a) le e (by simp; omega) (by simp; omega) (by simp; omega) ⟨_, List.mem_append_right _ List.mem_cons_self, by rw [mkB_data]; exact hb⟩
              exact ⟨r, himpl r g1, g2⟩
            by_cases h20 : 20 < byteAt s a
            · obtain ⟨r', g1, g2⟩ := doom (by
                rw [Bool.eq_false_iff]
                intro e1
                have := label_size e1
                rw [List.length_map] at this
                omega)
              exact ⟨failS, r', Ev.of (fun k => (spec_l2Take.mono_l k).1 _ _ _ _ _ _) (spec_lab_out s hs 0 a L p le e h1 h2 (by omega) (by omega) (.inl h20)), g1, by rw [g2]; rfl, fun h => by cases h⟩
            · rcases spec_lab s hs a L p le e h1 h2 (by omega) (by omega) (by omega) (by omega) with ⟨f1, y, hy, rfl⟩ | ⟨f1, f2⟩
              · obtain ⟨r', g1, g2⟩ := doom (by
                  rw [Bool.eq_false_iff]
                  intro e1
                  unfold isLabelL at e1
                  simp only [Bool.or_eq_true, Bool.and_eq_true, beq_iff_eq, List.all_eq_true] at e1
                  have hm : (46 : UInt8) ∈ (rawL s a).map lowB := List.mem_map.2 ⟨46, hy, (low46 46).2 rfl⟩
                  rcases e1 with e1 | e1
                  · rw [e1] at hm
                    simp at hm
                  · exact absurd (e1.2 46 hm) (by decide))
                exact ⟨failS, r', f1, g1, by rw [g2]; rfl, fun h => by cases h⟩
              · obtain ⟨r, r', g1, g2, g3⟩ := sync (n - 1) (a + 1 + byteAt s a) (L ++ [mkB (rawL s a)]) (plc e p a) le e a0 (by simp; omega) (by simp; omega) (by simp; omega) (by
                  intro x hx
                  rcases List.mem_append.1 hx with hx | hx
                  · exact hI x hx
                  · obtain rfl := List.mem_singleton.1 hx
                    rw [mkB_size, mkB_data]
                    exact ⟨by omega, by omega, f1⟩) (by omega) he2
                refine ⟨r, r', f2 r g1, himpl r' ?_, g3⟩
                rw [List.map_append] at g2
                have e1 : [mkB (rawL s a)].map smB = [mkB ((rawL s a).map lowB)] := by simp [smB, mkB_data]
                rw [e1] at g2
                exact g2
  termination_by n => n
  decreasing_by all_goals omega

/-- What both return. -/
theorem take_both (a : Nat) (ha : a ≤ s.size) : ∃ r r', Ev (fun k => spec_l2Take.f k s (a : Int)) r ∧ Ev (fun k => impl_takeName.f k s (a : Int)) r' ∧ r.2.2.2 = r'.2.2.2 ∧
      (r.2.2.2 = true → r.1 = r'.1 ∧ r.2.1 = r'.2.2.1 ∧ r.2.2.1 = r'.2.1 ∧ (a : Int) < r.2.1 ∧ r.2.1 ≤ (s.size : Int) ∧ r.2.2.1.length ≤ 9) :=
  sync s hs (a * 10 + 9) a [] [] a (-1) a (by simp) (by simp) (by simp) (fun x hx => by cases hx) (fun _ => Nat.le_refl _) (fun h => by omega)
end
end Go.Proofs.YtomcfhbmdoomlaaDoor.Pure

-- PurePlace
/- Taking a name: as PureTake, and the places lie in the text. Conditions: the text is short. -/
namespace Go.Proofs.YtomcfhbmdoomlaaDoor.Pure
open Go.RowKit Go.Proofs.YtomcfhbmdoomlaaDoor.P Go.Proofs.YtomcfhbmdoomlaaDoorW.PrintWords Go.Proofs.YtomcfhbmdoomlaaDoorW.PrintLast
set_option linter.unusedVariables false
set_option linter.unusedSimpArgs false
set_option linter.unusedSectionVars false
section
variable (s : ByteArray) (hs : s.size ≤ 600)
include hs
theorem sync2 : ∀ (n a : Nat) (L : List ByteArray) (p : List Int) (le : Nat) (e : Int) (a0 : Nat), le * 10 + (9 - L.length) ≤ n → L.length ≤ 9 → p.length ≤ L.length → InvL L → (e < 0 → a0 ≤ a) → (0 ≤ e → (a0 : Int) < e ∧ e ≤ (s.size : Int)) → (∀ x ∈ p, 0 ≤ x ∧ x < (s.size : Int)) →
    ∃ r r', Ev (fun k => spec_l2Take.l0 k s (a : Int) L p (le : Int) e) r ∧ Ev (fun k => impl_takeName.l0 k s (a : Int) (L.map smB) p (le : Int) e) r' ∧ r.2.2.2 = r'.2.2.2 ∧
      (r.2.2.2 = true → r.1 = r'.1 ∧ r.2.1 = r'.2.2.1 ∧ r.2.2.1 = r'.2.1 ∧ (a0 : Int) < r.2.1 ∧ r.2.1 ≤ (s.size : Int) ∧ r.2.2.1.length ≤ 9 ∧ ∀ x ∈ r.2.2.1, 0 ≤ x ∧ x < (s.size : Int))
  | n, a, L, p, le, e, a0, hn, hL, hp, hI, he1, he2, hpr => by
    have hLs : (L.map smB).length = L.length := List.length_map ..
    by_cases ho : s.size ≤ a ∨ 8 < L.length
    · exact ⟨failS, failI, Ev.of (fun k => (spec_l2Take.mono_l k).1 _ _ _ _ _ _) (spec_out s hs 0 a L p le e ho), Ev.of (fun k => (impl_takeName.mono_l k).1 _ _ _ _ _ _) (impl_out s hs 0 a _ p le e (by omega)), rfl, fun h => by cases h⟩
    · have h1 : a < s.size := by omega
      have h2 : L.length ≤ 8 := by omega
      by_cases v0 : byteAt s a = 0
      · have hi := impl_end s hs 0 a (L.map smB) p le e h1 (by omega) v0
        refine ⟨((foldR (mkB (joinL L))).1, endOf e (a + 1), p, (foldR (mkB (joinL L))).2), _, ?_, Ev.of (fun k => (impl_takeName.mono_l k).1 _ _ _ _ _ _) hi, by rw [fin_eq L hI], fun _ => ⟨by rw [fin_eq L hI], rfl, rfl, ?_, ?_, by show p.length ≤ 9; omega, hpr⟩⟩
        · refine Ev.step (f := fun k => (spec_l1Join.f k L).bind fun t => (spec_FoldName.f t).bind fun bt119 => some (bt119.1, endOf e (a + 1), p, bt119.2)) (fun k => ?_) (Ev.bind (join_ev L (fun x hx => by have := (hI x hx).2.1; omega) (by omega)) (Ev.congr (f := fun _ => some ((foldR (mkB (joinL L))).1, endOf e (a + 1), p, (foldR (mkB (joinL L))).2)) (fun k => by unfold spec_FoldName.f; rfl) (Ev.now _)))
          show spec_l2Take.l0 (k + 1) s (a : Int) L p (le : Int) e = _
          conv => lhs; unfold spec_l2Take.l0
          rw [if_pos (by omega), if_neg (by omega), if_pos (by omega), if_pos (by omega), byteAt_bt, wN _ (by have := byteAt_lt s a; omega), v0, if_neg (by decide), if_pos (by rfl), w64n (by omega)]
          unfold endOf
          by_cases he : e < 0
          · rw [if_pos he, if_pos he]
          · rw [if_neg he, if_neg he]
        · show (a0 : Int) < endOf e (a + 1)
          unfold endOf
          split <;> omega
        · show endOf e (a + 1) ≤ (s.size : Int)
          unfold endOf
          split <;> omega
      · by_cases v1 : 192 ≤ byteAt s a
        · by_cases h3 : a + 1 < s.size
          · by_cases hle : ((ptrOf s a : Nat) : Int) ≥ (le : Int)
            · exact ⟨failS, failI, Ev.of (fun k => (spec_l2Take.mono_l k).1 _ _ _ _ _ _) ((spec_ptr s hs 0 a L p le e h1 h2 v1 h3).trans (if_pos hle)), Ev.of (fun k => (impl_takeName.mono_l k).1 _ _ _ _ _ _) ((impl_ptr s hs 0 a _ p le e h1 (by omega) v1 h3).trans (if_pos hle)), rfl, fun h => by cases h⟩
            · obtain ⟨r, r', g1, g2, g3⟩ := sync2 (n - 10) (ptrOf s a) L p (ptrOf s a) (endOf e (a + 2)) a0 (by omega) hL hp hI (by unfold endOf; split <;> omega) (by unfold endOf; split <;> omega) hpr
              exact ⟨r, r', Ev.step (fun k => (spec_ptr s hs k a L p le e h1 h2 v1 h3).trans (if_neg hle)) g1, Ev.step (fun k => rfl) (Ev.step (g := fun k => impl_takeName.l0 (k + 1) s (a : Int) (L.map smB) p (le : Int) e) (fun k => (impl_ptr s hs k a _ p le e h1 (by omega) v1 h3).trans (if_neg hle)) g2), g3⟩
          · exact ⟨failS, failI, Ev.of (fun k => (spec_l2Take.mono_l k).1 _ _ _ _ _ _) (spec_ptr_out s hs 0 a L p le e h1 h2 v1 (by omega)), Ev.of (fun k => (impl_takeName.mono_l k).1 _ _ _ _ _ _) (impl_ptr_out s hs 0 a _ p le e h1 (by omega) v1 (by omega)), rfl, fun h => by cases h⟩
        · have hlb : ∀ (g : s.size ≥ a + 1 + byteAt s a), (rawL s a).length = byteAt s a := fun g => by unfold rawL; rw [List.length_take, List.length_drop, ← size_len]; omega
          by_cases h3 : 64 ≤ byteAt s a ∨ s.size < a + 1 + byteAt s a
          · exact ⟨failS, failI, Ev.of (fun k => (spec_l2Take.mono_l k).1 _ _ _ _ _ _) (spec_lab_out s hs 0 a L p le e h1 h2 (by omega) (by omega) (by omega)), Ev.of (fun k => (impl_takeName.mono_l k).1 _ _ _ _ _ _) (impl_lab_out s hs 0 a _ p le e h1 (by omega) (by omega) (by omega) h3), rfl, fun h => by cases h⟩
          · have hlen := hlb (by omega)
            have himpl : ∀ r, Ev (fun k => impl_takeName.l0 k s ((a + 1 + byteAt s a : Nat) : Int) (L.map smB ++ [mkB ((rawL s a).map lowB)]) (plc e p a) (le : Int) e) r → Ev (fun k => impl_takeName.l0 k s (a : Int) (L.map smB) p (le : Int) e) r := fun r g2 =>
              Ev.step (fun k => rfl) (Ev.step (fun k => rfl) (Ev.step (g := fun k => impl_takeName.l0 (k + 2) s (a : Int) (L.map smB) p (le : Int) e) (fun k => impl_lab s hs k a _ p le e h1 (by omega) (by omega) (by omega) (by omega) (by omega)) g2))
            have hpl : (plc e p a).length ≤ L.length + 1 := by
              unfold plc
              split
              · rw [List.length_append, List.length_singleton]; omega
              · omega
            have hplr : ∀ x ∈ plc e p a, 0 ≤ x ∧ x < (s.size : Int) := by
              unfold plc
              split
              · intro x hx
                rcases List.mem_append.1 hx with hx | hx
                · exact hpr x hx
                · rw [List.mem_singleton.1 hx]; omega
              · exact hpr
            have doom : isLabelL ((rawL s a).map lowB) = false → ∃ r, Ev (fun k => impl_takeName.l0 k s (a : Int) (L.map smB) p (le : Int) e) r ∧ r.2.2.2 = false := by
              intro hb
              obtain ⟨r, g1, g2⟩ := doomed s hs (n - 1) (a + 1 + byteAt s a) (L.map smB ++ [mkB ((rawL s a).map lowB)]) (plc e p a) le e (by simp; omega) (by simp; omega) (by simp; omega) ⟨_, List.mem_append_right _ List.mem_cons_self, by rw [mkB_data]; exact hb⟩
              exact ⟨r, himpl r g1, g2⟩
            by_cases h20 : 20 < byteAt s a
            · obtain ⟨r', g1, g2⟩ := doom (by
                rw [Bool.eq_false_iff]
                intro e1
                have := label_size e1
                rw [List.length_map] at this
                omega)
              exact ⟨failS, r', Ev.of (fun k => (spec_l2Take.mono_l k).1 _ _ _ _ _ _) (spec_lab_out s hs 0 a L p le e h1 h2 (by omega) (by omega) (.inl h20)), g1, by rw [g2]; rfl, fun h => by cases h⟩
            · rcases spec_lab s hs a L p le e h1 h2 (by omega) (by omega) (by omega) (by omega) with ⟨f1, y, hy, rfl⟩ | ⟨f1, f2⟩
              · obtain ⟨r', g1, g2⟩ := doom (by
                  rw [Bool.eq_false_iff]
                  intro e1
                  unfold isLabelL at e1
                  simp only [Bool.or_eq_true, Bool.and_eq_true, beq_iff_eq, List.all_eq_true] at e1
                  have hm : (46 : UInt8) ∈ (rawL s a).map lowB := List.mem_map.2 ⟨46, hy, (low46 46).2 rfl⟩
                  rcases e1 with e1 | e1
                  · rw [e1] at hm
                    simp at hm
                  · exact absurd (e1.2 46 hm) (by decide))
                exact ⟨failS, r', f1, g1, by rw [g2]; rfl, fun h => by cases h⟩
              · obtain ⟨r, r', g1, g2, g3⟩ := sync2 (n - 1) (a + 1 + byteAt s a) (L ++ [mkB (rawL s a)]) (plc e p a) le e a0 (by simp; omega) (by simp; omega) (by simp; omega) (by
                  intro x hx
                  rcases List.mem_append.1 hx with hx | hx
                  · exact hI x hx
                  · obtain rfl := List.mem_singleton.1 hx
                    rw [mkB_size, mkB_data]
                    exact ⟨by omega, by omega, f1⟩) (by omega) he2 hplr
                refine ⟨r, r', f2 r g1, himpl r' ?_, g3⟩
                rw [List.map_append] at g2
                have e1 : [mkB (rawL s a)].map smB = [mkB ((rawL s a).map lowB)] := by simp [smB, mkB_data]
                rw [e1] at g2
                exact g2
  termination_by n => n
  decreasing_by all_goals omega

/-- What both return. -/
theorem take_both2 (a : Nat) (ha : a ≤ s.size) : ∃ r r', Ev (fun k => spec_l2Take.f k s (a : Int)) r ∧ Ev (fun k => impl_takeName.f k s (a : Int)) r' ∧ r.2.2.2 = r'.2.2.2 ∧
      (r.2.2.2 = true → r.1 = r'.1 ∧ r.2.1 = r'.2.2.1 ∧ r.2.2.1 = r'.2.1 ∧ (a : Int) < r.2.1 ∧ r.2.1 ≤ (s.size : Int) ∧ r.2.2.1.length ≤ 9 ∧ ∀ x ∈ r.2.2.1, 0 ≤ x ∧ x < (s.size : Int)) :=
  sync2 s hs (a * 10 + 9) a [] [] a (-1) a (by simp) (by simp) (by simp) (fun x hx => by cases hx) (fun _ => Nat.le_refl _) (fun h => by omega) (fun x hx => by cases hx)
end
end Go.Proofs.YtomcfhbmdoomlaaDoor.Pure

-- PurePar
/- The name behind the first label: the reference and the program return the same. Conditions: the texts' sizes. (A part of PureBelow, for seats that lack spec.l1Below.) -/
namespace Go.Proofs.YtomcfhbmdoomlaaDoor.Pure
open Go.RowKit Go.Proofs.YtomcfhbmdoomlaaDoor.P Go.Proofs.YtomcfhbmdoomlaaDoorW.PrintWords Go.Proofs.YtomcfhbmdoomlaaDoorW.PrintLast
set_option linter.unusedVariables false
set_option linter.unusedSimpArgs false

/-- What is behind the first dot. -/
def parL : List UInt8 → List UInt8
  | [] => []
  | x :: xs => if x = 46 then xs else parL xs
theorem parL_len (l : List UInt8) : (parL l).length ≤ l.length - 1 := by
  induction l with
  | nil => simp [parL]
  | cons x xs ih =>
    unfold parL
    split
    · simp
    · simp at ih ⊢; omega
theorem parL_hit (p r : List UInt8) (h : ∀ x ∈ p, x ≠ 46) : parL (p ++ 46 :: r) = r := by
  induction p with
  | nil => simp [parL]
  | cons x xs ih => rw [List.cons_append, parL, if_neg (h x List.mem_cons_self), ih fun y hy => h y (List.mem_cons_of_mem _ hy)]
theorem parL_none (l : List UInt8) (h : ∀ x ∈ l, x ≠ 46) : parL l = [] := by
  induction l with
  | nil => rfl
  | cons x xs ih => rw [parL, if_neg (h x List.mem_cons_self), ih fun y hy => h y (List.mem_cons_of_mem _ hy)]

theorem parent_loop (s : ByteArray) (hs : s.size < 1099511627776) : ∀ (m i : Nat), i + m = s.size →
    spec_l1Parent.l0 (m + 1) s (i : Int) = some (mkB (parL (s.data.toList.drop i)))
  | 0, i, him => by
    unfold spec_l1Parent.l0
    rw [if_neg (by omega), List.drop_of_length_le (by rw [← size_len]; omega)]
    rfl
  | m + 1, i, him => by
    have hi : i < s.data.toList.length := by rw [← size_len]; omega
    unfold spec_l1Parent.l0
    rw [if_pos (by omega), if_pos (by omega), w64n (by omega), bt_list s i hi, List.drop_eq_getElem_cons hi]
    unfold parL
    by_cases h : s.data.toList[i] = 46
    · rw [if_pos (by rw [h]; rfl), if_pos h, if_pos (by omega), if_pos (by omega), Int.toNat_natCast, ext_end]
    · rw [if_neg (by intro e; apply h; apply UInt8.toNat_inj.1; simpa using Int.ofNat.inj e), if_neg h, parent_loop s hs m (i + 1) (by omega)]
theorem specParent_ev (s : ByteArray) (hs : s.size < 1099511627776) : Ev (fun k => spec_l1Parent.f k s) (mkB (parL s.data.toList)) := by
  refine Ev.of (fun k => spec_l1Parent.mono _ _) (k := s.size + 1) ?_
  unfold spec_l1Parent.f
  have := parent_loop s hs s.size 0 (by omega)
  simpa using this
theorem implParent_eq (s : ByteArray) (hs : s.size < 4611686018427387904) : impl_parentOf.f s = some (mkB (parL s.data.toList)) := by
  unfold impl_parentOf.f strings_Cut.f stringslite_Cut.f internal_stringslite_Index.f
  rw [if_pos (show (⟨#[46]⟩ : ByteArray).size = 1 from rfl)]
  simp only [Option.bind_some]
  rw [show List.headD (⟨#[46]⟩ : ByteArray).data.toList 0 = 46 from rfl, show (⟨#[46]⟩ : ByteArray).size = 1 from rfl]
  rcases place_or 46 s.data.toList with ⟨h1, h2⟩ | ⟨p, r, h1, h2, h3⟩
  · rw [h1, if_neg (by omega), parL_none _ h2]
    rfl
  · have hl : p.length + (r.length + 1) = s.size := by rw [size_len, h1]; simp
    rw [h3, show (((1 : Nat) : Int)) = 1 from rfl, w64n (by omega), if_pos (by omega), if_pos (by omega), if_pos (by omega), if_pos (by omega), if_pos (by omega), Int.toNat_natCast, Int.toNat_natCast, ext_end]
    simp only [Option.bind_some]
    have hd : s.data.toList.drop (p.length + 1) = r := by rw [h1, ← List.drop_drop, List.drop_left]; rfl
    rw [hd, h1, parL_hit p r h2]
end Go.Proofs.YtomcfhbmdoomlaaDoor.Pure
