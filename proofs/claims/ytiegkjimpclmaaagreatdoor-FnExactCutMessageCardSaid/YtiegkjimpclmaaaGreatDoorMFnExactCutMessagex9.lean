/- FnExactCutMessage: part 10 of 14 of my texts for this claim, joined; the theorem stands in the last. Conditions: none beyond the statement's. -/
import Derived.Test.YtiegkjimpclmaaaGreatDoorMFnExactCutMessagex8
open Go.RowKit Go.Proofs.YtiegkjimpclmaaaGreatDoorW.PrintWords Go.Proofs.YtiegkjimpclmaaaGreatDoorW.PrintLast Go.Proofs.YtiegkjimpclmaaaGreatDoorW.PrintMore
set_option linter.unusedVariables false
set_option linter.unusedSimpArgs false
set_option maxHeartbeats 8000000
set_option maxRecDepth 100000
namespace Go.Proofs.YtiegkjimpclmaaaGreatDoor.Pure
open Go.Proofs.YtiegkjimpclmaaaGreatDoor.P
set_option linter.unusedSectionVars false
theorem bt_mkB (x : List UInt8) (i : Nat) (h : i < x.length) : bt (mkB x) (i : Int) = ((x[i]).toNat : Int) := by
 rw [bt_list _ i (by rw [mkB_data]; exact h)]
 have : ∀ (l : List UInt8) (hl : l = x) (h1 : i < l.length), l[i] = x[i] := by rintro l rfl h1; rfl
 rw [this _ (mkB_data x)]
def failI : ByteArray × List Int × Int × Bool := ((⟨#[]⟩ : ByteArray), ([] : List Int), 0, false)
def failS : ByteArray × Int × List Int × Bool := ((⟨#[]⟩ : ByteArray), 0, ([] : List Int), false)
def byteAt (s : ByteArray) (a : Nat) : Nat := (bt s (a : Int)).toNat
theorem byteAt_bt (s : ByteArray) (a : Nat) : bt s (a : Int) = (byteAt s a : Int) := by
 have := bt_range s (a : Int)
 unfold byteAt
 omega
theorem byteAt_lt (s : ByteArray) (a : Nat) : byteAt s a ≤ 255 := by
 have := bt_range s (a : Int)
 unfold byteAt
 omega
theorem wN (n : Nat) (h : n < 4611686018427387904) : wrap64 (n : Int) = (n : Int) := by unfold wrap64; omega
def endOf (e : Int) (x : Nat) : Int := if e < 0 then (x : Int) else e
def plc (e : Int) (l : List Int) (a : Nat) : List Int := if e < 0 then l ++ [(a : Int)] else l
def ptrOf (s : ByteArray) (a : Nat) : Nat := (byteAt s a - 192) * 256 + byteAt s (a + 1)
section
variable (s : ByteArray) (hs : s.size ≤ 2000)
include hs
theorem impl_out (k a : Nat) (L : List ByteArray) (p : List Int) (le e : Int) (h : s.size ≤ a ∨ 8 < L.length) : impl_takeName.l0 (k + 2) s (a : Int) L p le e = some failI := by
 have hj : impl_takeName.l0 (k + 2) s (a : Int) L p le e = impl_takeName.j1 (k + 1) s (a : Int) L p le e false := by
  conv => lhs; unfold impl_takeName.l0
  by_cases h1 : (a : Int) < (s.size : Int)
  · rw [if_pos h1, decide_eq_false (by omega)]
  · rw [if_neg h1]
 rw [hj]
 unfold impl_takeName.j1
 rw [if_neg (by simp)]
 rfl
theorem impl_in (k a : Nat) (L : List ByteArray) (p : List Int) (le e : Int) (h1 : a < s.size) (h2 : L.length ≤ 8) : impl_takeName.l0 (k + 2) s (a : Int) L p le e = impl_takeName.j1 (k + 1) s (a : Int) L p le e true := by
 conv => lhs; unfold impl_takeName.l0
 rw [if_pos (by omega), decide_eq_true (by omega)]
theorem impl_end (k a : Nat) (L : List ByteArray) (p : List Int) (le e : Int) (h1 : a < s.size) (h2 : L.length ≤ 8) (hv : byteAt s a = 0) :
 impl_takeName.l0 (k + 2) s (a : Int) L p le e = some ((nameR L).1, p, endOf e (a + 1), (nameR L).2) := by
 rw [impl_in s hs k a L p le e h1 h2]
 unfold impl_takeName.j1 endOf impl_NameOf.f
 rw [if_pos rfl, if_pos (by omega), if_pos (by omega), byteAt_bt, wN _ (by have := byteAt_lt s a; omega), hv, if_pos (by rfl), w64n (by omega)]
 by_cases he : e < 0
 · rw [if_pos he, if_pos he]; rfl
 · rw [if_neg he, if_neg he]; rfl
theorem impl_ptr_out (k a : Nat) (L : List ByteArray) (p : List Int) (le e : Int) (h1 : a < s.size) (h2 : L.length ≤ 8) (hv : 192 ≤ byteAt s a) (h3 : s.size ≤ a + 1) :
 impl_takeName.l0 (k + 2) s (a : Int) L p le e = some failI := by
 rw [impl_in s hs k a L p le e h1 h2]
 unfold impl_takeName.j1
 rw [if_pos rfl, if_pos (by omega), if_pos (by omega), byteAt_bt, wN _ (by have := byteAt_lt s a; omega), if_neg (by omega), if_pos (by omega), w64n (by omega), if_pos (by omega)]
 rfl
theorem impl_ptr (k a : Nat) (L : List ByteArray) (p : List Int) (le e : Int) (h1 : a < s.size) (h2 : L.length ≤ 8) (hv : 192 ≤ byteAt s a) (h3 : a + 1 < s.size) :
 impl_takeName.l0 (k + 2) s (a : Int) L p le e = if ((ptrOf s a : Nat) : Int) ≥ le then some failI else impl_takeName.l0 k s ((ptrOf s a : Nat) : Int) L p ((ptrOf s a : Nat) : Int) (endOf e (a + 2)) := by
 rw [impl_in s hs k a L p le e h1 h2]
 have b1 := byteAt_lt s a
 have b2 := byteAt_lt s (a + 1)
 have hw2 : wrap64 ((a : Int) + 2) = ((a + 2 : Nat) : Int) := by unfold wrap64; omega
 have hp : wrap64 ((wrap64 ((Int.tmod (byteAt s a : Int) 64) * 256)) + (byteAt s (a + 1) : Int)) = ((ptrOf s a : Nat) : Int) := by
  unfold ptrOf
  rw [Int.tmod_eq_emod_of_nonneg (by omega)]
  unfold wrap64
  omega
 conv => lhs; unfold impl_takeName.j1
 rw [if_pos rfl, if_pos (by omega), if_pos (by omega), byteAt_bt, wN _ (by omega), if_neg (by omega), if_pos (by omega), w64n (by omega), if_neg (by omega), byteAt_bt, wN (byteAt s (a + 1)) (by omega), hp, hw2]
 unfold endOf
 by_cases he : e < 0
 · rw [if_pos he, if_pos he, if_pos (by omega), if_pos (by omega)]; rfl
 · rw [if_neg he, if_neg he, if_pos (by omega), if_pos (by omega)]; rfl
theorem impl_lab_out (k a : Nat) (L : List ByteArray) (p : List Int) (le e : Int) (h1 : a < s.size) (h2 : L.length ≤ 8) (hv : 0 < byteAt s a) (hv2 : byteAt s a < 192) (h3 : 64 ≤ byteAt s a ∨ s.size < a + 1 + byteAt s a) :
 impl_takeName.l0 (k + 3) s (a : Int) L p le e = some failI := by
 rw [impl_in s hs (k + 1) a L p le e h1 h2]
 have b1 := byteAt_lt s a
 have hw2 : wrap64 (((a + 1 : Nat) : Int) + (byteAt s a : Int)) = ((a + 1 + byteAt s a : Nat) : Int) := by unfold wrap64; omega
 have hj : impl_takeName.j1 (k + 2) s (a : Int) L p le e true = impl_takeName.j2 (k + 1) s (a : Int) L p le e (byteAt s a : Int) true := by
  conv => lhs; unfold impl_takeName.j1
  rw [if_pos rfl, if_pos (by omega), if_pos (by omega), byteAt_bt, wN _ (by omega), if_neg (by omega), if_neg (by omega)]
  by_cases h64 : (byteAt s a : Int) ≥ 64
  · rw [if_pos h64]
  · rw [if_neg h64, w64n (by omega), hw2, decide_eq_true (by omega)]
 rw [hj]
 unfold impl_takeName.j2
 rw [if_pos rfl]
 rfl
theorem impl_lab (k a : Nat) (L : List ByteArray) (p : List Int) (le e : Int) (h1 : a < s.size) (h2 : L.length ≤ 8) (hp : p.length < 17592186044416) (hv : 0 < byteAt s a) (hv2 : byteAt s a < 64) (h3 : a + 1 + byteAt s a ≤ s.size) :
 impl_takeName.l0 (k + 3) s (a : Int) L p le e = impl_takeName.l0 k s ((a + 1 + byteAt s a : Nat) : Int) (L ++ [mkB (((s.data.toList.drop (a + 1)).take (byteAt s a)).map lowB)]) (plc e p a) le e := by
 rw [impl_in s hs (k + 1) a L p le e h1 h2]
 have hw2 : wrap64 (((a + 1 : Nat) : Int) + (byteAt s a : Int)) = ((a + 1 + byteAt s a : Nat) : Int) := by unfold wrap64; omega
 have hw3 : wrap64 ((a : Int) + (wrap64 (1 + (byteAt s a : Int)))) = ((a + 1 + byteAt s a : Nat) : Int) := by unfold wrap64; omega
 have hj : impl_takeName.j1 (k + 2) s (a : Int) L p le e true = impl_takeName.j2 (k + 1) s (a : Int) L p le e (byteAt s a : Int) false := by
  conv => lhs; unfold impl_takeName.j1
  rw [if_pos rfl, if_pos (by omega), if_pos (by omega), byteAt_bt, wN _ (by omega), if_neg (by omega), if_neg (by omega), if_neg (by omega), w64n (by omega), hw2, decide_eq_false (by omega)]
 rw [hj]
 have hsm : impl_small.f (s.extract (a + 1) (a + 1 + byteAt s a)) = some (mkB (((s.data.toList.drop (a + 1)).take (byteAt s a)).map lowB)) := by
  unfold impl_small.f
  rw [if_pos (by rw [ext_mkB, mkB_size, List.length_take]; omega), ext_mkB, mkB_data, show a + 1 + byteAt s a - (a + 1) = byteAt s a by omega]
 conv => lhs; unfold impl_takeName.j2
 unfold plc
 rw [if_neg (by simp), w64n (by omega), hw2, hw3, Int.toNat_natCast, Int.toNat_natCast, hsm]
 simp only [Option.bind_some]
 by_cases he : e < 0
 · rw [if_pos he, if_pos he, if_pos hp, if_pos (by omega), if_pos (by omega), if_pos (by omega), if_pos (by omega)]
 · rw [if_neg he, if_neg he, if_pos (by omega), if_pos (by omega), if_pos (by omega), if_pos (by omega)]
theorem spec_out (k a : Nat) (L : List ByteArray) (p : List Int) (le e : Int) (h : s.size ≤ a ∨ 8 < L.length) : spec_l2Take.l0 (k + 1) s (a : Int) L p le e = some failS := by
 conv => lhs; unfold spec_l2Take.l0
 by_cases h1 : (L.length : Int) ≤ 8
 · rw [if_pos h1, if_pos (by omega)]; rfl
 · rw [if_neg h1]; rfl
theorem spec_ptr_out (k a : Nat) (L : List ByteArray) (p : List Int) (le e : Int) (h1 : a < s.size) (h2 : L.length ≤ 8) (hv : 192 ≤ byteAt s a) (h3 : s.size ≤ a + 1) :
 spec_l2Take.l0 (k + 1) s (a : Int) L p le e = some failS := by
 conv => lhs; unfold spec_l2Take.l0
 rw [if_pos (by omega), if_neg (by omega), if_pos (by omega), if_pos (by omega), byteAt_bt, wN _ (by have := byteAt_lt s a; omega), if_pos (by omega), w64n (by omega), if_pos (by omega)]
 rfl
theorem spec_ptr (k a : Nat) (L : List ByteArray) (p : List Int) (le e : Int) (h1 : a < s.size) (h2 : L.length ≤ 8) (hv : 192 ≤ byteAt s a) (h3 : a + 1 < s.size) :
 spec_l2Take.l0 (k + 1) s (a : Int) L p le e = if ((ptrOf s a : Nat) : Int) ≥ le then some failS else spec_l2Take.l0 k s ((ptrOf s a : Nat) : Int) L p ((ptrOf s a : Nat) : Int) (endOf e (a + 2)) := by
 have b1 := byteAt_lt s a
 have b2 := byteAt_lt s (a + 1)
 have hw2 : wrap64 ((a : Int) + 2) = ((a + 2 : Nat) : Int) := by unfold wrap64; omega
 have hp : wrap64 ((wrap64 ((wrap64 ((byteAt s a : Int) - 192)) * 256)) + (byteAt s (a + 1) : Int)) = ((ptrOf s a : Nat) : Int) := by
  unfold ptrOf
  unfold wrap64
  omega
 conv => lhs; unfold spec_l2Take.l0
 rw [if_pos (by omega), if_neg (by omega), if_pos (by omega), if_pos (by omega), byteAt_bt, wN _ (by omega), if_pos (by omega), w64n (by omega), if_neg (by omega), byteAt_bt, wN (byteAt s (a + 1)) (by omega), hp, hw2]
 unfold endOf
 by_cases he : e < 0
 · rw [if_pos he, if_pos he, if_pos (by omega), if_pos (by omega)]; rfl
 · rw [if_neg he, if_neg he, if_pos (by omega), if_pos (by omega)]; rfl
theorem spec_lab_out (k a : Nat) (L : List ByteArray) (p : List Int) (le e : Int) (h1 : a < s.size) (h2 : L.length ≤ 8) (hv : 0 < byteAt s a) (hv2 : byteAt s a < 192) (h3 : 20 < byteAt s a ∨ s.size < a + 1 + byteAt s a) :
 spec_l2Take.l0 (k + 2) s (a : Int) L p le e = some failS := by
 have b1 := byteAt_lt s a
 have hw2 : wrap64 (((a + 1 : Nat) : Int) + (byteAt s a : Int)) = ((a + 1 + byteAt s a : Nat) : Int) := by unfold wrap64; omega
 have hj : spec_l2Take.l0 (k + 2) s (a : Int) L p le e = spec_l2Take.j1 (k + 1) s (a : Int) L p le e (byteAt s a : Int) true := by
  conv => lhs; unfold spec_l2Take.l0
  rw [if_pos (by omega), if_neg (by omega), if_pos (by omega), if_pos (by omega), byteAt_bt, wN _ (by omega), if_neg (by omega), if_neg (by omega)]
  by_cases h20 : (byteAt s a : Int) > 20
  · rw [if_pos h20]
  · rw [if_neg h20, w64n (by omega), hw2, decide_eq_true (by omega)]
 rw [hj]
 unfold spec_l2Take.j1
 rw [if_pos rfl]
 rfl
def rawL (s : ByteArray) (a : Nat) : List UInt8 := (s.data.toList.drop (a + 1)).take (byteAt s a)
omit hs in
theorem dots_step (a : Nat) (L : List ByteArray) (p : List Int) (le e : Int) (x : List UInt8) (hx : x.length ≤ 1000) (i : Nat) (hi : i < x.length) (k : Nat) :
 spec_l2Take.l1 (k + 1) s (a : Int) L p le e (x.length : Int) (mkB x) (i : Int) = if x[i] = 46 then some failS else spec_l2Take.l1 k s (a : Int) L p le e (x.length : Int) (mkB x) ((i + 1 : Nat) : Int) := by
 conv => lhs; unfold spec_l2Take.l1
 rw [if_pos (by omega), if_pos (by omega), if_pos (by rw [mkB_size]; omega), bt_mkB x i hi, w64n (by omega)]
 generalize x[i] = c
 by_cases h : c = 46
 · rw [if_pos h, if_pos (by rw [h]; rfl)]; rfl
 · rw [if_neg h, if_neg (by intro e; apply h; apply UInt8.toNat_inj.1; simpa using Int.ofNat.inj e)]
omit hs in
theorem dots_none (a : Nat) (L : List ByteArray) (p : List Int) (le e : Int) (x : List UInt8) (hx : x.length ≤ 1000) (hL : L.length ≤ 8) : ∀ (m i : Nat), i + m = x.length → (∀ y ∈ x.drop i, y ≠ 46) →
 ∀ r, Ev (fun k => spec_l2Take.l0 k s (wrap64 ((a : Int) + (wrap64 (1 + (x.length : Int))))) (L ++ [mkB x]) p le e) r → Ev (fun k => spec_l2Take.l1 k s (a : Int) L p le e (x.length : Int) (mkB x) (i : Int)) r
 | 0, i, him, hd, r, hr => by
  refine Ev.step (fun k => ?_) hr
  show spec_l2Take.l1 (k + 1) s (a : Int) L p le e (x.length : Int) (mkB x) (i : Int) = _
  conv => lhs; unfold spec_l2Take.l1
  rw [if_neg (by omega), if_pos (by omega)]
 | m + 1, i, him, hd, r, hr => by
  rw [List.drop_eq_getElem_cons (by omega)] at hd
  exact Ev.step (fun k => by rw [dots_step s a L p le e x hx i (by omega), if_neg (hd _ List.mem_cons_self)]) (dots_none a L p le e x hx hL m (i + 1) (by omega) (fun y hy => hd y (List.mem_cons_of_mem _ hy)) r hr)
omit hs in
theorem dots_some (a : Nat) (L : List ByteArray) (p : List Int) (le e : Int) (x : List UInt8) (hx : x.length ≤ 1000) (hL : L.length ≤ 8) : ∀ (m i : Nat), i + m = x.length → (∃ y ∈ x.drop i, y = 46) →
 Ev (fun k => spec_l2Take.l1 k s (a : Int) L p le e (x.length : Int) (mkB x) (i : Int)) failS
 | 0, i, him, ⟨y, hy, _⟩ => by
  rw [List.drop_of_length_le (by omega)] at hy
  cases hy
 | m + 1, i, him, hd => by
  by_cases h : x[i]'(by omega) = 46
  · exact Ev.step (f := fun _ => some failS) (fun k => by rw [dots_step s a L p le e x hx i (by omega), if_pos h]) (Ev.now _)
  · rw [List.drop_eq_getElem_cons (by omega)] at hd
    obtain ⟨y, hy, e1⟩ := hd
    rcases List.mem_cons.1 hy with rfl | hy
    · exact absurd e1 h
    · exact Ev.step (fun k => by rw [dots_step s a L p le e x hx i (by omega), if_neg h]) (dots_some a L p le e x hx hL m (i + 1) (by omega) ⟨y, hy, e1⟩)
theorem spec_lab (a : Nat) (L : List ByteArray) (p : List Int) (le e : Int) (h1 : a < s.size) (h2 : L.length ≤ 8) (hp : p.length < 17592186044416) (hv : 0 < byteAt s a) (hv2 : byteAt s a ≤ 20) (h3 : a + 1 + byteAt s a ≤ s.size) :
 Ev (fun k => spec_l2Take.l0 k s (a : Int) L p le e) failS ∧ (∃ y ∈ rawL s a, y = 46) ∨
 ((∀ y ∈ rawL s a, y ≠ 46) ∧ ∀ r, Ev (fun k => spec_l2Take.l0 k s ((a + 1 + byteAt s a : Nat) : Int) (L ++ [mkB (rawL s a)]) (plc e p a) le e) r → Ev (fun k => spec_l2Take.l0 k s (a : Int) L p le e) r) := by
 have hw2 : wrap64 (((a + 1 : Nat) : Int) + (byteAt s a : Int)) = ((a + 1 + byteAt s a : Nat) : Int) := by unfold wrap64; omega
 have hw3 : wrap64 ((a : Int) + (wrap64 (1 + (byteAt s a : Int)))) = ((a + 1 + byteAt s a : Nat) : Int) := by unfold wrap64; omega
 have hlen : (rawL s a).length = byteAt s a := by unfold rawL; rw [List.length_take, List.length_drop, ← size_len]; omega
 have hstep : ∀ k, spec_l2Take.l0 (k + 3) s (a : Int) L p le e = spec_l2Take.l1 k s (a : Int) L (plc e p a) le e ((rawL s a).length : Int) (mkB (rawL s a)) 0 := by
  intro k
  have hj : spec_l2Take.l0 (k + 3) s (a : Int) L p le e = spec_l2Take.j1 (k + 2) s (a : Int) L p le e (byteAt s a : Int) false := by
   conv => lhs; unfold spec_l2Take.l0
   rw [if_pos (by omega), if_neg (by omega), if_pos (by omega), if_pos (by omega), byteAt_bt, wN _ (by omega), if_neg (by omega), if_neg (by omega), if_neg (by omega), w64n (by omega), hw2, decide_eq_false (by omega)]
  have hj2 : spec_l2Take.j1 (k + 2) s (a : Int) L p le e (byteAt s a : Int) false = spec_l2Take.j2 (k + 1) s (a : Int) L (plc e p a) le e (byteAt s a : Int) := by
   conv => lhs; unfold spec_l2Take.j1
   unfold plc
   rw [if_neg (by simp)]
   by_cases he : e < 0
   · rw [if_pos he, if_pos he, if_pos hp]
   · rw [if_neg he, if_neg he]
  rw [hj, hj2]
  conv => lhs; unfold spec_l2Take.j2
  rw [w64n (by omega), hw2, if_pos (by omega), if_pos (by omega), if_pos (by omega), Int.toNat_natCast, Int.toNat_natCast, ext_mkB, hlen, show a + 1 + byteAt s a - (a + 1) = byteAt s a by omega]
  rfl
 have lift : ∀ r, Ev (fun k => spec_l2Take.l1 k s (a : Int) L (plc e p a) le e ((rawL s a).length : Int) (mkB (rawL s a)) ((0 : Nat) : Int)) r → Ev (fun k => spec_l2Take.l0 k s (a : Int) L p le e) r := by
  intro r hr
  obtain ⟨K, hK⟩ := hr
  exact ⟨K + 3, fun k hk => by
   obtain ⟨j, rfl⟩ : ∃ j, k = j + 3 := ⟨k - 3, by omega⟩
   show spec_l2Take.l0 (j + 3) s (a : Int) L p le e = _
   rw [hstep]
   exact hK j (by omega)⟩
 by_cases hd : ∃ y ∈ rawL s a, y = 46
 · exact .inl ⟨lift _ (dots_some s a L (plc e p a) le e (rawL s a) (by omega) h2 (rawL s a).length 0 (by omega) hd), hd⟩
 · have hd' : ∀ y ∈ rawL s a, y ≠ 46 := fun y hy e1 => hd ⟨y, hy, e1⟩
   refine .inr ⟨hd', fun r hr => lift r (dots_none s a L (plc e p a) le e (rawL s a) (by omega) h2 (rawL s a).length 0 (by omega) hd' r ?_)⟩
   rw [hlen, hw3]
   exact hr
end
end Go.Proofs.YtiegkjimpclmaaaGreatDoor.Pure
namespace Go.Proofs.YtiegkjimpclmaaaGreatDoor.Pure
open Go.Proofs.YtiegkjimpclmaaaGreatDoor.P
theorem num_in (l : List UInt8) (most : Int) (h : 0 ≤ most) : decide (0 ≤ numS l ∧ numS l ≤ most) = (canL l && decide ((valL l : Int) ≤ most)) := by
 unfold numS
 by_cases hc : canL l = true
 · rw [if_pos hc, hc, Bool.true_and, decide_eq_decide]
   omega
 · rw [if_neg hc, Bool.eq_false_iff.mpr hc, Bool.false_and, decide_eq_false_iff_not]
   omega
theorem num_ok {l : List UInt8} {most : Int} (h : (canL l && decide ((valL l : Int) ≤ most)) = true) : numS l = (valL l : Int) := by
 rw [Bool.and_eq_true] at h
 unfold numS
 rw [if_pos h.1]
theorem s1 (v : Int) : (strOfNums [v]).size = 1 := by rw [strOfNums_size]; rfl
theorem a_loops (parts : List ByteArray) (hl : parts.length < 1099511627776) (hs : ∀ x ∈ parts, x.size ≤ 1048576) : ∀ (m i : Nat) (out : ByteArray), i + m = parts.length → out.size + m < 1099511627777 →
 ∃ r, Ev (fun k => spec_l3Bytes.l0 k out parts parts (parts.length : Int) (i : Int)) r ∧ ((parts.length : Int) = 4 → Ev (fun k => impl_DataBytes.l0 k parts out (i : Int)) r) ∧ (¬ (parts.length : Int) = 4 → r.2 = false) ∧ (r.2 = false → r.1 = (⟨#[]⟩ : ByteArray) ∨ ¬ (parts.length : Int) = 4)
 | 0, i, out, him, ho => by
  refine ⟨(out, (parts.length : Int) == 4), Ev.step (f := fun _ => some (out, (parts.length : Int) == 4)) (fun k => ?_) (Ev.now _), fun h4 => ?_, fun h4 => beq_eq_false_iff_ne.mpr h4, fun h4 => .inr (beq_eq_false_iff_ne.mp h4)⟩
  · show spec_l3Bytes.l0 (k + 1) out parts parts (parts.length : Int) (i : Int) = _
    conv => lhs; unfold spec_l3Bytes.l0
    rw [if_neg (by omega)]
  · rw [h4]
    refine Ev.step (f := fun _ => some (out, true)) (fun k => ?_) (Ev.now _)
    show impl_DataBytes.l0 (k + 1) parts out (i : Int) = _
    conv => lhs; unfold impl_DataBytes.l0
    rw [if_neg (by omega)]
 | m + 1, i, out, him, ho => by
  have hi : i < parts.length := by omega
  have hsz := hs _ (List.getElem_mem hi)
  obtain ⟨v, hn1, hn2⟩ := number_eq parts[i] 255 (by omega) (by omega) (by omega)
  have hin := int_ev parts[i] (by omega)
  have es : ∀ k, spec_l3Bytes.l0 (k + 1) out parts parts (parts.length : Int) (i : Int) = (spec_l1Int.f k parts[i]).bind fun t135 => ((spec_l1In.f t135 0 255).bind fun t136 => (if t136 = true then ((spec_l3Number.f k t135 1).bind fun t137 => (if out.size + t137.size ≤ 9223372036854775807 then (spec_l3Bytes.l0 k (out ++ t137) parts parts (parts.length : Int) ((i + 1 : Nat) : Int)) else (none))) else (some ((⟨#[]⟩ : ByteArray), false)))) := fun k => by
   conv => lhs; unfold spec_l3Bytes.l0
   rw [if_pos (by omega), if_pos (by omega), if_pos (by omega), td_rd parts i hi, w64n (by omega)]
  have ei : (parts.length : Int) = 4 → ∀ k, impl_DataBytes.l0 (k + 1) parts out (i : Int) = if (canL parts[i].data.toList && decide ((valL parts[i].data.toList : Int) ≤ 255)) = true then ((impl_big.f k v 1).bind fun t => (if out.size + t.size ≤ 9223372036854775807 then impl_DataBytes.l0 k parts (out ++ t) ((i + 1 : Nat) : Int) else none)) else some badD := fun h4 k => by
   conv => lhs; unfold impl_DataBytes.l0
   rw [if_pos (by omega), if_pos (by omega), td_rd parts i hi, hn1, Option.bind_some, w64n (by omega)]
   simp only [if_pos h4]
  have hdec := num_in parts[i].data.toList 255 (by omega)
  by_cases hb : (canL parts[i].data.toList && decide ((valL parts[i].data.toList : Int) ≤ 255)) = true
  · have hv := hn2 hb
    have hnv := num_ok hb
    obtain ⟨r, g1, g2, g3, g4⟩ := a_loops parts hl hs m (i + 1) (out ++ strOfNums [v % 256]) (by omega) (by rw [ByteArray.size_append, s1]; omega)
    refine ⟨r, Ev.step es (Ev.bind hin ?_), fun h4 => Ev.step (ei h4) ?_, g3, g4⟩
    · simp only [within_spec, Option.bind_some, hdec, hb, if_true]
      rw [hnv, ← hv]
      refine Ev.bind (num1 v) ?_
      simp only [if_pos (show out.size + (strOfNums [v % 256]).size ≤ 9223372036854775807 by rw [s1]; omega)]
      exact g1
    · simp only [hb, if_true]
      refine Ev.bind (big1 v) ?_
      simp only [if_pos (show out.size + (strOfNums [v % 256]).size ≤ 9223372036854775807 by rw [s1]; omega)]
      exact g2 h4
  · refine ⟨badD, Ev.step es (Ev.bind hin ?_), fun h4 => Ev.step (ei h4) ?_, fun _ => rfl, fun _ => .inl rfl⟩
    · simp only [within_spec, Option.bind_some, hdec, if_neg hb]
      exact Ev.now _
    · simp only [if_neg hb]
      exact Ev.now _
theorem txt_loop (s : ByteArray) (hs : s.size ≤ 1048576) : ∀ (m i : Nat), i + m = s.size →
 Ev (fun k => spec_l3Bytes.l1 k s (i : Int)) (if ((bytesOf s).drop i).any (fun c => decide (c < 32) || decide (c > 126)) = true then badD else (strOfNums [((s.size : Int)) % 256] ++ s, decide ((s.size : Int) ≤ 30)))
 | 0, i, him => by
  have hlen : (bytesOf s).length = s.size := bytes_len s
  rw [List.drop_of_length_le (by omega), List.any_nil, if_neg (by simp)]
  refine Ev.step (f := fun _ => some _) (fun k => ?_) (Ev.now _)
  show spec_l3Bytes.l1 (k + 1) s (i : Int) = _
  conv => lhs; unfold spec_l3Bytes.l1
  rw [if_neg (by omega), Option.bind_some, if_pos (by rw [s1]; omega)]
 | m + 1, i, him => by
  have hlen : (bytesOf s).length = s.size := bytes_len s
  have hi : i < (bytesOf s).length := by omega
  have hb : bt s (i : Int) = (bytesOf s)[i] := by
   rw [← rd_bytesOf]
   unfold rd
   rw [Int.toNat_natCast, List.getD_eq_getElem?_getD, List.getElem?_eq_getElem hi]
   rfl
  rw [List.drop_eq_getElem_cons hi, List.any_cons]
  have e0 : ∀ k, spec_l3Bytes.l1 (k + 1) s (i : Int) = (if (bytesOf s)[i] < 32 then (some ((⟨#[]⟩ : ByteArray), false)) else (if (bytesOf s)[i] > 126 then (some ((⟨#[]⟩ : ByteArray), false)) else (spec_l3Bytes.l1 k s ((i + 1 : Nat) : Int)))) := fun k => by
   conv => lhs; unfold spec_l3Bytes.l1
   rw [if_pos (by omega), if_pos (by omega), hb, w64n (by omega)]
  have ih := txt_loop s hs m (i + 1) (by omega)
  by_cases h1 : (bytesOf s)[i] < 32
  · rw [decide_eq_true h1, Bool.true_or, Bool.true_or, if_pos rfl]
    refine Ev.step e0 ?_
    simp only [if_pos h1]
    exact Ev.now _
  · by_cases h2 : (bytesOf s)[i] > 126
    · rw [decide_eq_true h2, Bool.or_true, Bool.true_or, if_pos rfl]
      refine Ev.step e0 ?_
      simp only [if_neg h1, if_pos h2]
      exact Ev.now _
    · rw [decide_eq_false h1, decide_eq_false h2, Bool.or_false, Bool.false_or]
      refine Ev.step e0 ?_
      simp only [if_neg h1, if_neg h2]
      exact ih
theorem a_bad (parts : List ByteArray) (hp : 0 < parts.length) (h4 : ¬ (parts.length : Int) = 4) (hs : ∀ x ∈ parts, x.size ≤ 1048576) : Ev (fun k => impl_DataBytes.l0 k parts (⟨#[]⟩ : ByteArray) 0) badD := by
 obtain ⟨v, hn1, _⟩ := number_eq parts[0] 255 (by have := hs _ (List.getElem_mem hp); omega) (by omega) (by omega)
 refine Ev.step (f := fun _ => some badD) (fun k => ?_) (Ev.now _)
 show impl_DataBytes.l0 (k + 1) parts (⟨#[]⟩ : ByteArray) ((0 : Nat) : Int) = _
 conv => lhs; unfold impl_DataBytes.l0
 rw [if_pos (by omega), if_pos (by omega), td_rd parts 0 hp, hn1, Option.bind_some]
 simp only [if_neg h4]
 split <;> rfl
def specData (k : Nat) (kind : Int) (s : ByteArray) : Option (ByteArray × Bool) := (spec_l3Bytes.f k kind s).bind fun bt159 => (if bt159.2 = true then (some (bt159.1, true)) else (some ((⟨#[]⟩ : ByteArray), false)))
theorem spec_done {kind : Int} {s : ByteArray} {q : ByteArray × Bool} (h : Ev (fun k => spec_l3Bytes.f k kind s) q) : Ev (fun k => specData k kind s) (if q.2 = true then (q.1, true) else badD) := by
 refine Ev.congr (fun k => rfl) (Ev.bind h ?_)
 by_cases hq : q.2 = true
 · simp only [if_pos hq]; exact Ev.now _
 · simp only [if_neg hq]; exact Ev.now _
def DataEq (kind : Int) (s : ByteArray) : Prop := ∃ r, Ev (fun k => specData k kind s) r ∧ Ev (fun k => impl_DataBytes.f k kind s) r
theorem data_one (s : ByteArray) (hs : s.size ≤ 1048576) : DataEq 1 s := by
 have hne := splitL_ne 46 s.data.toList
 have hpl : 0 < ((splitL 46 s.data.toList).map mkB).length := by rw [List.length_map]; exact List.length_pos_iff.2 hne
 have hlen : ((splitL 46 s.data.toList).map mkB).length ≤ s.size + 1 := by rw [List.length_map, size_len]; exact splitL_len _ _
 have hsz : ∀ x ∈ (splitL 46 s.data.toList).map mkB, x.size ≤ 1048576 := by
  intro x hx
  obtain ⟨q, hq, rfl⟩ := List.mem_map.1 hx
  have := splitL_part 46 _ q hq
  rw [← size_len] at this
  rw [mkB_size]
  omega
 have hsp : strings_Split.f s (⟨#[46]⟩ : ByteArray) = some ((splitL 46 s.data.toList).map mkB) := by
  unfold strings_Split.f
  rw [if_pos (show (⟨#[46]⟩ : ByteArray).size = 1 from rfl), if_pos (by omega)]
  rfl
 generalize hp : (splitL 46 s.data.toList).map mkB = parts at hpl hlen hsz hsp
 have hse := split_ev s (by omega)
 rw [hp] at hse
 obtain ⟨r, g1, g2, g3, g4⟩ := a_loops parts (by omega) hsz parts.length 0 (⟨#[]⟩ : ByteArray) (by omega) (by show 0 + _ < _; omega)
 have hspec : Ev (fun k => spec_l3Bytes.f k 1 s) r := Ev.congr (f := fun k => (spec_l1Split.f k s 46).bind fun t131 => (spec_l3Bytes.l0 k (⟨#[]⟩ : ByteArray) t131 t131 (t131.length : Int) 0)) (fun k => by unfold spec_l3Bytes.f; rw [if_pos rfl]) (Ev.bind hse g1)
 have ei : ∀ k, impl_DataBytes.f k 1 s = impl_DataBytes.l0 k parts (⟨#[]⟩ : ByteArray) 0 := fun k => by
  unfold impl_DataBytes.f
  rw [if_pos rfl, hsp, Option.bind_some]
 by_cases h4 : (parts.length : Int) = 4
 · refine ⟨r, ?_, Ev.congr ei (g2 h4)⟩
   have hd := spec_done hspec
   by_cases hr : r.2 = true
   · rw [if_pos hr] at hd
     have : (r.1, true) = r := Prod.ext rfl hr.symm
     rwa [this] at hd
   · rw [if_neg hr] at hd
     have hf := Bool.eq_false_iff.mpr hr
     have : badD = r := by
      rcases g4 hf with e | e
      · exact Prod.ext e.symm hf.symm
      · exact absurd h4 e
     rwa [this] at hd
 · refine ⟨badD, ?_, Ev.congr ei (a_bad parts hpl h4 hsz)⟩
   have hd := spec_done hspec
   rwa [g3 h4, if_neg (by simp)] at hd
theorem targ_good {l : List UInt8} (h : targL l = true) : goodL l = true := by
 unfold targL at h
 simp only [Bool.and_eq_true] at h
 exact h.2.1
theorem nb_targ (s : ByteArray) (h : targL s.data.toList = true) : ∃ r, Ev (fun k => impl_labelBytes.f k s) r ∧ Ev (fun k => spec_l2Bytes.f k s) (r ++ (⟨#[0]⟩ : ByteArray)) ∧ r.size ≤ 61 := by
 have hg := targ_good h
 obtain ⟨r, e1, e2, e3⟩ := nb_both s hg
 have := good_size hg
 rw [← size_len] at this
 exact ⟨r, e1, e2, by rw [e3]; split <;> omega⟩
theorem data_name (kind : Int) (hk : kind = 2 ∨ kind = 5) (s : ByteArray) (hs : s.size ≤ 1048576) : DataEq kind s := by
 have k1 : ¬ kind = 1 := by omega
 have hj : ∀ k, spec_l3Bytes.f k kind s = spec_l3Bytes.j1 k s kind true := fun k => by
  unfold spec_l3Bytes.f
  rw [if_neg k1]
  rcases hk with rfl | rfl
  · rw [if_pos rfl]; rfl
  · rw [if_neg (by omega)]; rfl
 have ei : ∀ k, impl_DataBytes.f k kind s = dataNs k s := fun k => by
  unfold impl_DataBytes.f
  rw [if_neg k1, if_pos hk]
 have et := target_impl s
 by_cases ht : targL s.data.toList = true
 · obtain ⟨r, e1, e2, e3⟩ := nb_targ s ht
   have hz : (r ++ (⟨#[0]⟩ : ByteArray)).size = r.size + 1 := by rw [ByteArray.size_append]; rfl
   refine ⟨(r ++ (⟨#[0]⟩ : ByteArray), true), ?_, ?_⟩
   · have : Ev (fun k => spec_l3Bytes.f k kind s) (r ++ (⟨#[0]⟩ : ByteArray), true) := by
      refine Ev.congr hj (Ev.step (f := fun k => (spec_l3Target.f k s).bind fun t138 => (if t138 = true then ((spec_l2Bytes.f k s).bind fun t139 => (some (t139, true))) else (some ((⟨#[]⟩ : ByteArray), false)))) (fun k => rfl) (Ev.bind (target_spec s hs) ?_))
      simp only [if_pos ht]
      exact Ev.bind e2 (Ev.now _)
     have hd := spec_done this
     rwa [if_pos rfl] at hd
   · refine Ev.congr ei ?_
     unfold dataNs
     simp only [et, Option.bind_some, if_pos ht]
     refine Ev.bind e1 ?_
     simp only [if_pos (show r.size + 1 ≤ 9223372036854775807 by omega)]
     exact Ev.now _
 · refine ⟨badD, ?_, ?_⟩
   · have : Ev (fun k => spec_l3Bytes.f k kind s) badD := by
      refine Ev.congr hj (Ev.step (f := fun k => (spec_l3Target.f k s).bind fun t138 => (if t138 = true then ((spec_l2Bytes.f k s).bind fun t139 => (some (t139, true))) else (some ((⟨#[]⟩ : ByteArray), false)))) (fun k => rfl) (Ev.bind (target_spec s hs) ?_))
      simp only [if_neg ht]
      exact Ev.now _
     exact spec_done this
   · refine Ev.congr ei ?_
     unfold dataNs
     simp only [et, Option.bind_some, if_neg ht]
     exact Ev.now _
theorem spec_j (kind : Int) (h1 : ¬ kind = 1) (h2 : ¬ kind = 2) (h5 : ¬ kind = 5) (s : ByteArray) (k : Nat) : spec_l3Bytes.f k kind s = spec_l3Bytes.j1 k s kind false := by
 unfold spec_l3Bytes.f
 rw [if_neg h1, if_neg h2, show (kind == 5) = false from beq_eq_false_iff_ne.mpr h5]
theorem data_serial (s : ByteArray) (hs : s.size ≤ 1048576) : DataEq 6 s := by
 obtain ⟨v, hn1, hn2⟩ := number_eq s 4294967295 (by omega) (by omega) (by omega)
 have hin := int_ev s (by omega)
 have hdec := num_in s.data.toList 4294967295 (by omega)
 have ei : ∀ k, impl_DataBytes.f k 6 s = dataSoa k s := fun k => by
  unfold impl_DataBytes.f
  rw [if_neg (by omega), if_neg (by omega), if_pos rfl]
 have hspec : Ev (fun k => spec_l3Bytes.f k 6 s) (strOfNums [numS s.data.toList / 16777216 % 256, numS s.data.toList / 65536 % 256, numS s.data.toList / 256 % 256, numS s.data.toList % 256], canL s.data.toList && decide ((valL s.data.toList : Int) ≤ 4294967295)) := by
  refine Ev.congr (fun k => spec_j 6 (by omega) (by omega) (by omega) s k) (Ev.step (f := fun k => (spec_l1Int.f k s).bind fun t140 => ((spec_l3Number.f k t140 4).bind fun t141 => ((spec_l1In.f t140 0 4294967295).bind fun t142 => (some (t141, t142))))) (fun k => rfl) (Ev.bind hin (Ev.bind (num4 _) ?_)))
  simp only [within_spec, Option.bind_some, hdec]
  exact Ev.now _
 have hd := spec_done hspec
 by_cases hb : (canL s.data.toList && decide ((valL s.data.toList : Int) ≤ 4294967295)) = true
 · have hv := hn2 hb
   have hnv := num_ok hb
   rw [if_pos hb, hnv, ← hv] at hd
   refine ⟨_, hd, Ev.congr ei ?_⟩
   unfold dataSoa
   simp only [hn1, Option.bind_some, if_pos hb]
   exact Ev.bind (big4 v) (Ev.now _)
 · rw [if_neg hb] at hd
   refine ⟨_, hd, Ev.congr ei ?_⟩
   unfold dataSoa
   simp only [hn1, Option.bind_some, if_neg hb]
   exact Ev.now _
theorem data_text (s : ByteArray) (hs : s.size ≤ 1048576) : DataEq 16 s := by
 have ei : ∀ k, impl_DataBytes.f k 16 s = dataTxt k s := fun k => by
  unfold impl_DataBytes.f
  rw [if_neg (by omega), if_neg (by omega), if_neg (by omega), if_neg (by omega), if_pos rfl]
 have hspec : Ev (fun k => spec_l3Bytes.f k 16 s) (if (bytesOf s).any (fun c => decide (c < 32) || decide (c > 126)) = true then badD else (strOfNums [((s.size : Int)) % 256] ++ s, decide ((s.size : Int) ≤ 30))) :=
  Ev.congr (fun k => spec_j 16 (by omega) (by omega) (by omega) s k) (Ev.step (f := fun k => spec_l3Bytes.l1 k s 0) (fun k => rfl) (txt_loop s hs s.size 0 (by omega)))
 have hd := spec_done hspec
 by_cases hb : (bytesOf s).any (fun c => decide (c < 32) || decide (c > 126)) = true
 · rw [if_pos hb] at hd
   refine ⟨_, hd, Ev.congr ei ?_⟩
   unfold dataTxt
   by_cases h30 : (s.size : Int) > 30
   · simp only [if_pos h30]; exact Ev.now _
   · simp only [if_neg h30, if_pos hb]; exact Ev.now _
 · rw [if_neg hb] at hd
   by_cases h30 : (s.size : Int) > 30
   · rw [decide_eq_false (show ¬ (s.size : Int) ≤ 30 by omega), if_neg (by simp)] at hd
     refine ⟨_, hd, Ev.congr ei ?_⟩
     unfold dataTxt
     simp only [if_pos h30]; exact Ev.now _
   · rw [decide_eq_true (show (s.size : Int) ≤ 30 by omega), if_pos rfl] at hd
     refine ⟨_, hd, Ev.congr ei ?_⟩
     unfold dataTxt
     simp only [if_neg h30, if_neg hb]
     refine Ev.bind (big1 _) ?_
     simp only [if_pos (show (strOfNums [(s.size : Int) % 256]).size + s.size ≤ 9223372036854775807 by rw [s1]; omega)]
     exact Ev.now _
theorem space_bad {r : List UInt8} (h : 32 ∈ r) : targL r = false := by
 rw [Bool.eq_false_iff]
 intro ht
 have hg := good_all (targ_good ht)
 have hne : r ≠ [] := by rintro rfl; cases h
 obtain ⟨p, hp, hb⟩ := (split_mem r 32 (by decide)).1 h
 have := hg.2 p (by unfold labelsL; rw [if_neg hne]; exact hp)
 unfold isLabelL at this
 rw [Bool.or_eq_true, beq_iff_eq, Bool.and_eq_true, List.all_eq_true] at this
 rcases this with e | e
 · rw [e] at hb; simp at hb
 · exact absurd (e.2 32 hb) (by decide)
theorem data_mail (s : ByteArray) (hs : s.size ≤ 1048576) : DataEq 15 s := by
 have ei : ∀ k, impl_DataBytes.f k 15 s = dataMx k s := fun k => by
  unfold impl_DataBytes.f
  rw [if_neg (by omega), if_neg (by omega), if_neg (by omega), if_pos rfl]
 have hse := split32_ev s (by omega)
 have hj : ∀ {q : ByteArray × Bool}, Ev (fun k => (spec_l1Split.f k s 32).bind fun t143 => (if (t143.length : Int) = 2 then (if 0 < (t143.length : Int) then ((spec_l1Int.f k (rdOf ByteArray.empty t143 0)).bind fun t147 => ((spec_l1In.f t147 0 65535).bind fun t148 => (if t148 = true then (if 1 < (t143.length : Int) then ((spec_l3Target.f k (rdOf ByteArray.empty t143 1)).bind fun t150 => (spec_l3Bytes.j2 k t143 (!t150))) else (none)) else (spec_l3Bytes.j2 k t143 true)))) else (none)) else (spec_l3Bytes.j2 k t143 true))) q → Ev (fun k => spec_l3Bytes.f k 15 s) q := fun h =>
  Ev.congr (fun k => spec_j 15 (by omega) (by omega) (by omega) s k) (Ev.step (fun k => rfl) h)
 have jbad : ∀ l, Ev (fun k => spec_l3Bytes.j2 k l true) badD := fun l => Ev.step (f := fun _ => some badD) (fun k => rfl) (Ev.now _)
 have hcutI : ∀ p r, s.data.toList = p ++ 32 :: r → (∀ x ∈ p, x ≠ 32) → strings_Cut.f s (⟨#[32]⟩ : ByteArray) = some (mkB p, mkB r, true) := by
  intro p r h1 h2
  have hix : Lib.indexByte s.data.toList 32 = (p.length : Int) := by
   rcases place_or 32 s.data.toList with ⟨_, g2⟩ | ⟨p', r', g1, g2, g3⟩
   · exact absurd rfl (g2 32 (by rw [h1]; simp))
   · have e : p' :: splitL 32 r' = p :: splitL 32 r := by rw [← splitL_hit 32 p' r' g2, ← g1, h1, splitL_hit 32 p r h2]
     rw [g3, (List.cons.inj e).1]
  have hl : p.length + (r.length + 1) = s.size := by rw [size_len, h1]; simp
  unfold strings_Cut.f stringslite_Cut.f internal_stringslite_Index.f
  rw [if_pos (show (⟨#[32]⟩ : ByteArray).size = 1 from rfl)]
  simp only [Option.bind_some]
  rw [show List.headD (⟨#[32]⟩ : ByteArray).data.toList 0 = 32 from rfl, show (⟨#[32]⟩ : ByteArray).size = 1 from rfl, hix, show (((1 : Nat) : Int)) = 1 from rfl, w64n (by omega), if_pos (by omega), if_pos (by omega), if_pos (by omega), if_pos (by omega), if_pos (by omega), Int.toNat_natCast, Int.toNat_natCast, ext_mkB, ext_end]
  have e1 : (s.data.toList.drop 0).take (p.length - 0) = p := by rw [h1]; simp
  have e2 : s.data.toList.drop (p.length + 1) = r := by
   rw [h1, show p ++ 32 :: r = (p ++ [32]) ++ r by simp, List.drop_append_of_le_length (by simp), List.drop_of_length_le (by simp), List.nil_append]
  rw [e1, e2]
  rfl
 rcases place_or 32 s.data.toList with ⟨h1, h2⟩ | ⟨p, r, h1, h2, h3⟩
 · -- no space
   refine ⟨badD, ?_, Ev.congr ei ?_⟩
   · refine spec_done (q := badD) (hj (Ev.bind hse ?_))
     rw [splitL_none _ _ h2]
     simp only [List.map_cons, List.map_nil, List.length_cons, List.length_nil]
     exact jbad _
   · have hcut : strings_Cut.f s (⟨#[32]⟩ : ByteArray) = some (s, (⟨#[]⟩ : ByteArray), false) := by
      unfold strings_Cut.f stringslite_Cut.f internal_stringslite_Index.f
      rw [if_pos (show (⟨#[32]⟩ : ByteArray).size = 1 from rfl)]
      simp only [Option.bind_some]
      rw [show List.headD (⟨#[32]⟩ : ByteArray).data.toList 0 = 32 from rfl, h1, if_neg (by omega)]
      rfl
     obtain ⟨v, hn1, _⟩ := number_eq s 65535 (by omega) (by omega) (by omega)
     unfold dataMx
     simp only [hcut, Option.bind_some, hn1, target_impl]
     have : targL (⟨#[]⟩ : ByteArray).data.toList = false := rfl
     rw [this]
     refine Ev.congr (f := fun _ => some badD) (fun k => ?_) (Ev.now _)
     split <;> rfl
 · have hcut := hcutI p r h1 h2
   have hsl : splitL 32 s.data.toList = p :: splitL 32 r := by rw [h1]; exact splitL_hit 32 p r h2
   have hsz : p.length + r.length + 1 = s.size := by rw [size_len, h1]; simp; omega
   obtain ⟨v, hn1, hn2⟩ := number_eq (mkB p) 65535 (by rw [mkB_size]; omega) (by omega) (by omega)
   rw [mkB_data] at hn1 hn2
   have hei : ∀ k, dataMx k s = (if (canL p && decide ((valL p : Int) ≤ 65535)) = true then (if targL r = true then ((impl_big.f k v 2).bind fun g => ((impl_labelBytes.f k (mkB r)).bind fun lb => (if g.size + lb.size ≤ 9223372036854775807 then (if g.size + lb.size + 1 ≤ 9223372036854775807 then some ((g ++ lb) ++ (⟨#[0]⟩ : ByteArray), true) else none) else none))) else some badD) else some badD) := fun k => by
    unfold dataMx
    simp only [hcut, Option.bind_some, hn1, target_impl, mkB_data]
   have hdec := num_in p 65535 (by omega)
   have hin := int_ev (mkB p) (by rw [mkB_size]; omega)
   rw [mkB_data] at hin
   rcases place_or 32 r with ⟨_, r2⟩ | ⟨p', r', r1, _, _⟩
   · -- two parts
     rw [hsl, splitL_none _ _ r2] at hse
     simp only [List.map_cons, List.map_nil] at hse
     have htg := target_spec (mkB r) (by rw [mkB_size]; omega)
     rw [mkB_data] at htg
     by_cases hb : (canL p && decide ((valL p : Int) ≤ 65535)) = true
     · by_cases ht : targL r = true
       · have hv := hn2 hb
         have hnv := num_ok hb
         obtain ⟨lb, e1, e2, e3⟩ := nb_targ (mkB r) (by rw [mkB_data]; exact ht)
         have g2s : (strOfNums [v / 256 % 256, v % 256]).size = 2 := by rw [strOfNums_size]; rfl
         refine ⟨((strOfNums [v / 256 % 256, v % 256] ++ lb) ++ (⟨#[0]⟩ : ByteArray), true), ?_, Ev.congr ei (Ev.congr hei ?_)⟩
         · have : Ev (fun k => spec_l3Bytes.f k 15 s) ((strOfNums [v / 256 % 256, v % 256] ++ lb) ++ (⟨#[0]⟩ : ByteArray), true) := by
            refine hj (Ev.bind hse ?_)
            simp only [List.length_cons, List.length_nil, show ((0 + 1 + 1 : Nat) : Int) = 2 from rfl, if_true, if_pos (show (0 : Int) < 2 by omega), if_pos (show (1 : Int) < 2 by omega)]
            refine Ev.bind (a := numS p) hin ?_
            simp only [within_spec, Option.bind_some, hdec, hb, if_true]
            refine Ev.bind (a := true) (by rw [← ht]; exact htg) ?_
            refine Ev.step (f := fun k => (spec_l1Int.f k (mkB p)).bind fun t152 => ((spec_l3Number.f k t152 2).bind fun t153 => ((spec_l2Bytes.f k (mkB r)).bind fun t155 => (if t153.size + t155.size ≤ 9223372036854775807 then (some (t153 ++ t155, true)) else (none))))) (fun k => rfl) (Ev.bind hin ?_)
            rw [hnv, ← hv]
            refine Ev.bind (num2 v) (Ev.bind e2 ?_)
            rw [← ByteArray.append_assoc]
            simp only [if_pos (show (strOfNums [v / 256 % 256, v % 256]).size + (lb ++ (⟨#[0]⟩ : ByteArray)).size ≤ 9223372036854775807 by rw [g2s, ByteArray.size_append]; show 2 + (lb.size + 1) ≤ _; omega)]
            exact Ev.now _
           have hd := spec_done this
           rwa [if_pos rfl] at hd
         · simp only [hb, ht, if_true]
           refine Ev.bind (big2 v) (Ev.bind e1 ?_)
           simp only [g2s, if_pos (show 2 + lb.size ≤ 9223372036854775807 by omega), if_pos (show 2 + lb.size + 1 ≤ 9223372036854775807 by omega)]
           exact Ev.now _
       · refine ⟨badD, ?_, Ev.congr ei (Ev.congr hei ?_)⟩
         · refine spec_done (q := badD) (hj (Ev.bind hse ?_))
           simp only [List.length_cons, List.length_nil, show ((0 + 1 + 1 : Nat) : Int) = 2 from rfl, if_true, if_pos (show (0 : Int) < 2 by omega), if_pos (show (1 : Int) < 2 by omega)]
           refine Ev.bind (a := numS p) hin ?_
           simp only [within_spec, Option.bind_some, hdec, hb, if_true]
           refine Ev.bind (a := false) (by rw [← Bool.eq_false_iff.mpr ht]; exact htg) ?_
           exact jbad _
         · simp only [hb, if_neg ht, if_true]
           exact Ev.now _
     · refine ⟨badD, ?_, Ev.congr ei (Ev.congr hei ?_)⟩
       · refine spec_done (q := badD) (hj (Ev.bind hse ?_))
         simp only [List.length_cons, List.length_nil, show ((0 + 1 + 1 : Nat) : Int) = 2 from rfl, if_true, if_pos (show (0 : Int) < 2 by omega), if_pos (show (1 : Int) < 2 by omega)]
         refine Ev.bind (a := numS p) hin ?_
         simp only [within_spec, Option.bind_some, hdec, if_neg hb]
         exact jbad _
       · simp only [if_neg hb]
         exact Ev.now _
   · -- more parts
     have htf := space_bad (r := r) (by rw [r1]; simp)
     refine ⟨badD, ?_, Ev.congr ei (Ev.congr hei ?_)⟩
     · refine spec_done (q := badD) (hj (Ev.bind hse ?_))
       have hl : ¬ (((splitL 32 s.data.toList).map mkB).length : Int) = 2 := by
        rw [List.length_map, hsl, r1, splitL_hit 32 p' r' (by assumption)]
        have := List.length_pos_iff.2 (splitL_ne 32 r')
        simp only [List.length_cons]
        omega
       simp only [if_neg hl]
       exact jbad _
     · simp only [htf, Bool.false_eq_true, if_false]
       refine Ev.congr (f := fun _ => some badD) (fun k => ?_) (Ev.now _)
       split <;> rfl
theorem data_both (kind : Int) (s : ByteArray) (hs : s.size ≤ 1048576) : DataEq kind s := by
 by_cases c1 : kind = 1
 · subst c1; exact data_one s hs
 · by_cases c2 : kind = 2 ∨ kind = 5
   · exact data_name kind c2 s hs
   · by_cases c6 : kind = 6
     · subst c6; exact data_serial s hs
     · by_cases c15 : kind = 15
       · subst c15; exact data_mail s hs
       · by_cases c16 : kind = 16
         · subst c16; exact data_text s hs
         · refine ⟨badD, ?_, Ev.congr (f := fun _ => some badD) (fun k => ?_) (Ev.now _)⟩
           · refine spec_done (q := badD) (Ev.congr (fun k => spec_j kind c1 (fun e => c2 (.inl e)) (fun e => c2 (.inr e)) s k) (Ev.step (f := fun _ => some badD) (fun k => ?_) (Ev.now _)))
             show spec_l3Bytes.j1 (k + 1) s kind false = some badD
             simp [spec_l3Bytes.j1, c6, c15, c16, badD]
           · unfold impl_DataBytes.f
             rw [if_neg c1, if_neg c2, if_neg c6, if_neg c15, if_neg c16]
end Go.Proofs.YtiegkjimpclmaaaGreatDoor.Pure
namespace Go.Proofs.YtiegkjimpclmaaaGreatDoor.P
attribute [local go_sem] max2_int min2_int max_two min_two max_three min_three max_four min_four
def impl_GoodMessage.f (k : Nat) (a0_0 : Int) (a0_1 : Bool) (a0_2 : Bool) (a0_3 : Int) (a0_4 : ByteArray) (a0_5 : Int) (l0_6 : List (S45)) (l0_7 : List (S45)) : Option (Bool) := (impl_within.f a0_0 0 65535).bind fun t1004 => (if t1004 = true then ((impl_isCode.f k a0_3).bind fun t1005 => (if t1005 = true then ((impl_GoodName.f a0_4).bind fun t1006 => (if t1006 = true then ((impl_isType.f k a0_5).bind fun t1007 => (if t1007 = true then (if (l0_6.length : Int) > 12 then (some false) else (if (l0_7.length : Int) > 12 then (some false) else ((impl_areRecords.f k l0_6).bind fun t1008 => (if t1008 = true then ((impl_areRecords.f k l0_7).bind fun t1009 => (if t1009 = true then (if a0_1 = true then (some true) else (if a0_2 = true then (some false) else (if a0_3 = 0 then (if (l0_6.length : Int) = 0 then (some ((l0_7.length : Int) == 0)) else (some false)) else (some false)))) else (some false))) else (some false))))) else (some false))) else (some false))) else (some false))) else (some false))
theorem impl_GoodMessage.calls (k : Nat) (a0_0 : Int) (a0_1 : Bool) (a0_2 : Bool) (a0_3 : Int) (a0_4 : ByteArray) (a0_5 : Int) (A0_6 : Option Addr) (c0_6 : Nat) (l0_6 : List (S45)) (A0_7 : Option Addr) (c0_7 : Nat) (l0_7 : List (S45)) (r : Bool) (w : World) (hr0_6 : Kd.C k45 w A0_6 l0_6.length l0_6) (hc0_6 : l0_6.length ≤ c0_6) (hr0_7 : Kd.C k45 w A0_7 l0_7.length l0_7) (hc0_7 : l0_7.length ≤ c0_7) (h : impl_GoodMessage.f k a0_0 a0_1 a0_2 a0_3 a0_4 a0_5 l0_6 l0_7 = some r) (hv_ : Vars w := by exact vv_) :
 Calls Tryz.prog 105 #[.agg #[.int .i64 a0_0, .bool a0_1, .bool a0_2, .int .i64 a0_3, .string a0_4, .int .i64 a0_5, .slice A0_6 l0_6.length c0_6, .slice A0_7 l0_7.length c0_7]] w fun e w' => e = .returned (.bool r) ∧ Below w.heap.size w w' := by
 have HV_ := a0_ hv_
 clear hv_
 have hu62 := Tryz.underlying62
 have HR0_6 := a0_ hr0_6
 have HC0_6 := a0_ hc0_6
 clear hr0_6 hc0_6
 have HR0_7 := a0_ hr0_7
 have HC0_7 := a0_ hc0_7
 clear hr0_7 hc0_7
 have HB := a0_ (Below.refl w.heap.size w)
 have H := h
 clear h
 unfold impl_GoodMessage.f at H
 obtain ⟨t1004, A2, H⟩ := ob_ H
 by_cases c3 : t1004 = true
 case neg =>
  replace c3 := Bool.eq_false_iff.mpr c3
  subst c3
  rw [if_neg ff_] at H
  obtain rfl := Option.some.inj H
  go_enter Tryz.func105, Tryz.ntmps105
  go_wp2_with (first | ((with_reducible refine gate_dst (N := 1) rfl ?_); (try (refine gate_guard (by rfl) ?_; dsimp only)); refine boxS_ 1 #[.int .i64 a0_0, .bool a0_1, .bool a0_2, .int .i64 a0_3, .string a0_4, .int .i64 a0_5, .slice A0_6 l0_6.length c0_6, .slice A0_7 l0_7.length c0_7] 62 (fun gb1003 hg w131 hbox hb => ?_); have BK1003 := a0_ (hbox); have GW1003 := a0_ (gw_ hg : w.heap.size ≤ gb1003); replace HB := a0_ (below_step bq0_ hb); have GE1003 := GW1003; clear hb hbox hg; obtain ⟨_, _, _, _, _, _, _, _, _, _, _, _, _, _, _, _⟩ := bk8_ BK1003.out) | ((with_reducible refine gt_ 84 rfl ?_); refine gs_ 5 Tryz.func84 #[.int .i64 a0_0, .int .i64 0, .int .i64 65535] ?_; (with_reducible refine (impl_within.calls a0_0 0 65535 false _ A2.out).mono ?_); rintro e w' ⟨rfl, ⟨nd, rfl⟩⟩; refine ⟨_, rfl, ?_⟩))
  go_ret
  exact ⟨rr_, bq1_⟩
 subst c3
 rw [if_pos rfl] at H
 obtain ⟨t1005, A4, H⟩ := ob_ H
 by_cases c5 : t1005 = true
 case neg =>
  replace c5 := Bool.eq_false_iff.mpr c5
  subst c5
  rw [if_neg ff_] at H
  obtain rfl := Option.some.inj H
  go_enter Tryz.func105, Tryz.ntmps105
  go_wp2_with (first | ((with_reducible refine gate_dst (N := 1) rfl ?_); (try (refine gate_guard (by rfl) ?_; dsimp only)); refine boxS_ 1 #[.int .i64 a0_0, .bool a0_1, .bool a0_2, .int .i64 a0_3, .string a0_4, .int .i64 a0_5, .slice A0_6 l0_6.length c0_6, .slice A0_7 l0_7.length c0_7] 62 (fun gb1003 hg w128 hbox hb => ?_); have BK1003 := a0_ (hbox); have GW1003 := a0_ (gw_ hg : w.heap.size ≤ gb1003); replace HB := a0_ (below_step bq0_ hb); have GE1003 := GW1003; clear hb hbox hg; obtain ⟨_, _, _, _, _, _, _, _, _, _, _, _, _, _, _, _⟩ := bk8_ BK1003.out) | ((with_reducible refine gt_ 84 rfl ?_); refine gs_ 5 Tryz.func84 #[.int .i64 a0_0, .int .i64 0, .int .i64 65535] ?_; (with_reducible refine (impl_within.calls a0_0 0 65535 true _ A2.out).mono ?_); rintro e w' ⟨rfl, ⟨nd, rfl⟩⟩; refine ⟨_, rfl, ?_⟩) | (go_at_call 160; (with_reducible refine (impl_isCode.calls k a0_3 false _ A4.out).mono ?_); rintro e w130 ⟨rfl, hb⟩; replace BK1003 := a0_ (bkB_ BK1003 hb); replace HB := a0_ (below_step bq1_ hb); clear hb))
  go_ret
  exact ⟨rr_, bq1_⟩
 subst c5
 rw [if_pos rfl] at H
 obtain ⟨t1006, A6, H⟩ := ob_ H
 by_cases c7 : t1006 = true
 case neg =>
  replace c7 := Bool.eq_false_iff.mpr c7
  subst c7
  rw [if_neg ff_] at H
  obtain rfl := Option.some.inj H
  go_enter Tryz.func105, Tryz.ntmps105
  go_wp2_with (first | ((with_reducible refine gate_dst (N := 1) rfl ?_); (try (refine gate_guard (by rfl) ?_; dsimp only)); refine boxS_ 1 #[.int .i64 a0_0, .bool a0_1, .bool a0_2, .int .i64 a0_3, .string a0_4, .int .i64 a0_5, .slice A0_6 l0_6.length c0_6, .slice A0_7 l0_7.length c0_7] 62 (fun gb1003 hg w123 hbox hb => ?_); have BK1003 := a0_ (hbox); have GW1003 := a0_ (gw_ hg : w.heap.size ≤ gb1003); replace HB := a0_ (below_step bq0_ hb); have GE1003 := GW1003; clear hb hbox hg; obtain ⟨_, _, _, _, _, _, _, _, _, _, _, _, _, _, _, _⟩ := bk8_ BK1003.out) | ((with_reducible refine gt_ 84 rfl ?_); refine gs_ 5 Tryz.func84 #[.int .i64 a0_0, .int .i64 0, .int .i64 65535] ?_; (with_reducible refine (impl_within.calls a0_0 0 65535 true _ A2.out).mono ?_); rintro e w' ⟨rfl, ⟨nd, rfl⟩⟩; refine ⟨_, rfl, ?_⟩) | (go_at_call 160; (with_reducible refine (impl_isCode.calls k a0_3 true _ A4.out).mono ?_); rintro e w125 ⟨rfl, hb⟩; replace BK1003 := a0_ (bkB_ BK1003 hb); replace HB := a0_ (below_step bq1_ hb); clear hb; obtain ⟨_, _, _, _, _, _, _, _, _, _, _, _, _, _, _, _⟩ := bk8_ BK1003.out) | (go_at_call 83; (with_reducible refine (impl_GoodName.calls a0_4 false _ A6.out).mono ?_); rintro e w127 ⟨rfl, hb⟩; replace BK1003 := a0_ (bkB_ BK1003 hb); replace HB := a0_ (below_step bq1_ hb); clear hb))
  go_ret
  exact ⟨rr_, bq1_⟩
 subst c7
 rw [if_pos rfl] at H
 obtain ⟨t1007, A8, H⟩ := ob_ H
 by_cases c9 : t1007 = true
 case neg =>
  replace c9 := Bool.eq_false_iff.mpr c9
  subst c9
  rw [if_neg ff_] at H
  obtain rfl := Option.some.inj H
  go_enter Tryz.func105, Tryz.ntmps105
  go_wp2_with (first | ((with_reducible refine gate_dst (N := 1) rfl ?_); (try (refine gate_guard (by rfl) ?_; dsimp only)); refine boxS_ 1 #[.int .i64 a0_0, .bool a0_1, .bool a0_2, .int .i64 a0_3, .string a0_4, .int .i64 a0_5, .slice A0_6 l0_6.length c0_6, .slice A0_7 l0_7.length c0_7] 62 (fun gb1003 hg w116 hbox hb => ?_); have BK1003 := a0_ (hbox); have GW1003 := a0_ (gw_ hg : w.heap.size ≤ gb1003); replace HB := a0_ (below_step bq0_ hb); have GE1003 := GW1003; clear hb hbox hg; obtain ⟨_, _, _, _, _, _, _, _, _, _, _, _, _, _, _, _⟩ := bk8_ BK1003.out) | ((with_reducible refine gt_ 84 rfl ?_); refine gs_ 5 Tryz.func84 #[.int .i64 a0_0, .int .i64 0, .int .i64 65535] ?_; (with_reducible refine (impl_within.calls a0_0 0 65535 true _ A2.out).mono ?_); rintro e w' ⟨rfl, ⟨nd, rfl⟩⟩; refine ⟨_, rfl, ?_⟩) | (go_at_call 160; (with_reducible refine (impl_isCode.calls k a0_3 true _ A4.out).mono ?_); rintro e w118 ⟨rfl, hb⟩; replace BK1003 := a0_ (bkB_ BK1003 hb); replace HB := a0_ (below_step bq1_ hb); clear hb; obtain ⟨_, _, _, _, _, _, _, _, _, _, _, _, _, _, _, _⟩ := bk8_ BK1003.out) | (go_at_call 83; (with_reducible refine (impl_GoodName.calls a0_4 true _ A6.out).mono ?_); rintro e w120 ⟨rfl, hb⟩; replace BK1003 := a0_ (bkB_ BK1003 hb); replace HB := a0_ (below_step bq1_ hb); clear hb; obtain ⟨_, _, _, _, _, _, _, _, _, _, _, _, _, _, _, _⟩ := bk8_ BK1003.out) | (go_at_call 161; (with_reducible refine (impl_isType.calls k a0_5 false _ A8.out).mono ?_); rintro e w122 ⟨rfl, hb⟩; replace BK1003 := a0_ (bkB_ BK1003 hb); replace HB := a0_ (below_step bq1_ hb); clear hb))
  go_ret
  exact ⟨rr_, bq1_⟩
 subst c9
 rw [if_pos rfl] at H
 by_cases c10 : (l0_6.length : Int) > 12
 case pos =>
  rw [if_pos c10] at H
  have c10b0 := decide_eq_true c10
  have c10b1 : decide (12 < l0_6.length) = true := decide_eq_true (by omega)
  clear c10
  obtain rfl := Option.some.inj H
  go_enter Tryz.func105, Tryz.ntmps105
  go_wp2_with (first | ((with_reducible refine gate_dst (N := 1) rfl ?_); (try (refine gate_guard (by rfl) ?_; dsimp only)); refine boxS_ 1 #[.int .i64 a0_0, .bool a0_1, .bool a0_2, .int .i64 a0_3, .string a0_4, .int .i64 a0_5, .slice A0_6 l0_6.length c0_6, .slice A0_7 l0_7.length c0_7] 62 (fun gb1003 hg w11 hbox hb => ?_); have BK1003 := a0_ (hbox); have GW1003 := a0_ (gw_ hg : w.heap.size ≤ gb1003); replace HB := a0_ (below_step bq0_ hb); have GE1003 := GW1003; clear hb hbox hg; obtain ⟨_, _, _, _, _, _, _, _, _, _, _, _, _, _, _, _⟩ := bk8_ BK1003.out) | ((with_reducible refine gt_ 84 rfl ?_); refine gs_ 5 Tryz.func84 #[.int .i64 a0_0, .int .i64 0, .int .i64 65535] ?_; (with_reducible refine (impl_within.calls a0_0 0 65535 true _ A2.out).mono ?_); rintro e w' ⟨rfl, ⟨nd, rfl⟩⟩; refine ⟨_, rfl, ?_⟩) | (go_at_call 160; (with_reducible refine (impl_isCode.calls k a0_3 true _ A4.out).mono ?_); rintro e w13 ⟨rfl, hb⟩; replace BK1003 := a0_ (bkB_ BK1003 hb); replace HB := a0_ (below_step bq1_ hb); clear hb; obtain ⟨_, _, _, _, _, _, _, _, _, _, _, _, _, _, _, _⟩ := bk8_ BK1003.out) | (go_at_call 83; (with_reducible refine (impl_GoodName.calls a0_4 true _ A6.out).mono ?_); rintro e w15 ⟨rfl, hb⟩; replace BK1003 := a0_ (bkB_ BK1003 hb); replace HB := a0_ (below_step bq1_ hb); clear hb; obtain ⟨_, _, _, _, _, _, _, _, _, _, _, _, _, _, _, _⟩ := bk8_ BK1003.out) | (go_at_call 161; (with_reducible refine (impl_isType.calls k a0_5 true _ A8.out).mono ?_); rintro e w17 ⟨rfl, hb⟩; replace BK1003 := a0_ (bkB_ BK1003 hb); replace HB := a0_ (below_step bq1_ hb); clear hb; obtain ⟨_, _, _, _, _, _, _, _, _, _, _, _, _, _, _, _⟩ := bk8_ BK1003.out))
  go_ret
  exact ⟨rr_, bq1_⟩
 rw [if_neg c10] at H
 have c10b0 := decide_eq_false c10
 have c10b1 : decide (12 < l0_6.length) = false := decide_eq_false (by omega)
 clear c10
 by_cases c19 : (l0_7.length : Int) > 12
 case pos =>
  rw [if_pos c19] at H
  have c19b0 := decide_eq_true c19
  have c19b1 : decide (12 < l0_7.length) = true := decide_eq_true (by omega)
  clear c19
  obtain rfl := Option.some.inj H
  go_enter Tryz.func105, Tryz.ntmps105
  go_wp2_with (first | ((with_reducible refine gate_dst (N := 1) rfl ?_); (try (refine gate_guard (by rfl) ?_; dsimp only)); refine boxS_ 1 #[.int .i64 a0_0, .bool a0_1, .bool a0_2, .int .i64 a0_3, .string a0_4, .int .i64 a0_5, .slice A0_6 l0_6.length c0_6, .slice A0_7 l0_7.length c0_7] 62 (fun gb1003 hg w20 hbox hb => ?_); have BK1003 := a0_ (hbox); have GW1003 := a0_ (gw_ hg : w.heap.size ≤ gb1003); replace HB := a0_ (below_step bq0_ hb); have GE1003 := GW1003; clear hb hbox hg; obtain ⟨_, _, _, _, _, _, _, _, _, _, _, _, _, _, _, _⟩ := bk8_ BK1003.out) | ((with_reducible refine gt_ 84 rfl ?_); refine gs_ 5 Tryz.func84 #[.int .i64 a0_0, .int .i64 0, .int .i64 65535] ?_; (with_reducible refine (impl_within.calls a0_0 0 65535 true _ A2.out).mono ?_); rintro e w' ⟨rfl, ⟨nd, rfl⟩⟩; refine ⟨_, rfl, ?_⟩) | (go_at_call 160; (with_reducible refine (impl_isCode.calls k a0_3 true _ A4.out).mono ?_); rintro e w22 ⟨rfl, hb⟩; replace BK1003 := a0_ (bkB_ BK1003 hb); replace HB := a0_ (below_step bq1_ hb); clear hb; obtain ⟨_, _, _, _, _, _, _, _, _, _, _, _, _, _, _, _⟩ := bk8_ BK1003.out) | (go_at_call 83; (with_reducible refine (impl_GoodName.calls a0_4 true _ A6.out).mono ?_); rintro e w24 ⟨rfl, hb⟩; replace BK1003 := a0_ (bkB_ BK1003 hb); replace HB := a0_ (below_step bq1_ hb); clear hb; obtain ⟨_, _, _, _, _, _, _, _, _, _, _, _, _, _, _, _⟩ := bk8_ BK1003.out) | (go_at_call 161; (with_reducible refine (impl_isType.calls k a0_5 true _ A8.out).mono ?_); rintro e w26 ⟨rfl, hb⟩; replace BK1003 := a0_ (bkB_ BK1003 hb); replace HB := a0_ (below_step bq1_ hb); clear hb; obtain ⟨_, _, _, _, _, _, _, _, _, _, _, _, _, _, _, _⟩ := bk8_ BK1003.out))
  go_ret
  exact ⟨rr_, bq1_⟩
 rw [if_neg c19] at H
 have c19b0 := decide_eq_false c19
 have c19b1 : decide (12 < l0_7.length) = false := decide_eq_false (by omega)
 clear c19
 obtain ⟨t1008, A28, H⟩ := ob_ H
 by_cases c29 : t1008 = true
 case neg =>
  replace c29 := Bool.eq_false_iff.mpr c29
  subst c29
  rw [if_neg ff_] at H
  obtain rfl := Option.some.inj H
  go_enter Tryz.func105, Tryz.ntmps105
  go_wp2_with (first | ((with_reducible refine gate_dst (N := 1) rfl ?_); (try (refine gate_guard (by rfl) ?_; dsimp only)); refine boxS_ 1 #[.int .i64 a0_0, .bool a0_1, .bool a0_2, .int .i64 a0_3, .string a0_4, .int .i64 a0_5, .slice A0_6 l0_6.length c0_6, .slice A0_7 l0_7.length c0_7] 62 (fun gb1003 hg w107 hbox hb => ?_); have BK1003 := a0_ (hbox); have GW1003 := a0_ (gw_ hg : w.heap.size ≤ gb1003); replace HB := a0_ (below_step bq0_ hb); have GE1003 := GW1003; clear hb hbox hg; obtain ⟨_, _, _, _, _, _, _, _, _, _, _, _, _, _, _, _⟩ := bk8_ BK1003.out) | ((with_reducible refine gt_ 84 rfl ?_); refine gs_ 5 Tryz.func84 #[.int .i64 a0_0, .int .i64 0, .int .i64 65535] ?_; (with_reducible refine (impl_within.calls a0_0 0 65535 true _ A2.out).mono ?_); rintro e w' ⟨rfl, ⟨nd, rfl⟩⟩; refine ⟨_, rfl, ?_⟩) | (go_at_call 160; (with_reducible refine (impl_isCode.calls k a0_3 true _ A4.out).mono ?_); rintro e w109 ⟨rfl, hb⟩; replace BK1003 := a0_ (bkB_ BK1003 hb); replace HB := a0_ (below_step bq1_ hb); clear hb; obtain ⟨_, _, _, _, _, _, _, _, _, _, _, _, _, _, _, _⟩ := bk8_ BK1003.out) | (go_at_call 83; (with_reducible refine (impl_GoodName.calls a0_4 true _ A6.out).mono ?_); rintro e w111 ⟨rfl, hb⟩; replace BK1003 := a0_ (bkB_ BK1003 hb); replace HB := a0_ (below_step bq1_ hb); clear hb; obtain ⟨_, _, _, _, _, _, _, _, _, _, _, _, _, _, _, _⟩ := bk8_ BK1003.out) | (go_at_call 161; (with_reducible refine (impl_isType.calls k a0_5 true _ A8.out).mono ?_); rintro e w113 ⟨rfl, hb⟩; replace BK1003 := a0_ (bkB_ BK1003 hb); replace HB := a0_ (below_step bq1_ hb); clear hb; obtain ⟨_, _, _, _, _, _, _, _, _, _, _, _, _, _, _, _⟩ := bk8_ BK1003.out) | (go_at_call 74; (with_reducible refine (impl_areRecords.calls k _ _ l0_6 false _ ?side1 ?side2 A28.out).mono ?_); (case side1 => exact kC_ HR0_6.out HB.out); (case side2 => exact HC0_6.out); rintro e w115 ⟨rfl, hb⟩; replace BK1003 := a0_ (bkB_ BK1003 hb); replace HB := a0_ (below_step bq1_ hb); clear hb))
  go_ret
  exact ⟨rr_, bq1_⟩
 subst c29
 rw [if_pos rfl] at H
 obtain ⟨t1009, A30, H⟩ := ob_ H
 by_cases c31 : t1009 = true
 case neg =>
  replace c31 := Bool.eq_false_iff.mpr c31
  subst c31
  rw [if_neg ff_] at H
  obtain rfl := Option.some.inj H
  go_enter Tryz.func105, Tryz.ntmps105
  go_wp2_with (first | ((with_reducible refine gate_dst (N := 1) rfl ?_); (try (refine gate_guard (by rfl) ?_; dsimp only)); refine boxS_ 1 #[.int .i64 a0_0, .bool a0_1, .bool a0_2, .int .i64 a0_3, .string a0_4, .int .i64 a0_5, .slice A0_6 l0_6.length c0_6, .slice A0_7 l0_7.length c0_7] 62 (fun gb1003 hg w96 hbox hb => ?_); have BK1003 := a0_ (hbox); have GW1003 := a0_ (gw_ hg : w.heap.size ≤ gb1003); replace HB := a0_ (below_step bq0_ hb); have GE1003 := GW1003; clear hb hbox hg; obtain ⟨_, _, _, _, _, _, _, _, _, _, _, _, _, _, _, _⟩ := bk8_ BK1003.out) | ((with_reducible refine gt_ 84 rfl ?_); refine gs_ 5 Tryz.func84 #[.int .i64 a0_0, .int .i64 0, .int .i64 65535] ?_; (with_reducible refine (impl_within.calls a0_0 0 65535 true _ A2.out).mono ?_); rintro e w' ⟨rfl, ⟨nd, rfl⟩⟩; refine ⟨_, rfl, ?_⟩) | (go_at_call 160; (with_reducible refine (impl_isCode.calls k a0_3 true _ A4.out).mono ?_); rintro e w98 ⟨rfl, hb⟩; replace BK1003 := a0_ (bkB_ BK1003 hb); replace HB := a0_ (below_step bq1_ hb); clear hb; obtain ⟨_, _, _, _, _, _, _, _, _, _, _, _, _, _, _, _⟩ := bk8_ BK1003.out) | (go_at_call 83; (with_reducible refine (impl_GoodName.calls a0_4 true _ A6.out).mono ?_); rintro e w100 ⟨rfl, hb⟩; replace BK1003 := a0_ (bkB_ BK1003 hb); replace HB := a0_ (below_step bq1_ hb); clear hb; obtain ⟨_, _, _, _, _, _, _, _, _, _, _, _, _, _, _, _⟩ := bk8_ BK1003.out) | (go_at_call 161; (with_reducible refine (impl_isType.calls k a0_5 true _ A8.out).mono ?_); rintro e w102 ⟨rfl, hb⟩; replace BK1003 := a0_ (bkB_ BK1003 hb); replace HB := a0_ (below_step bq1_ hb); clear hb; obtain ⟨_, _, _, _, _, _, _, _, _, _, _, _, _, _, _, _⟩ := bk8_ BK1003.out) | (go_at_call 74; (with_reducible refine (impl_areRecords.calls k _ _ l0_6 true _ ?side1 ?side2 A28.out).mono ?_); (case side1 => exact kC_ HR0_6.out HB.out); (case side2 => exact HC0_6.out); rintro e w104 ⟨rfl, hb⟩; replace BK1003 := a0_ (bkB_ BK1003 hb); replace HB := a0_ (below_step bq1_ hb); clear hb; obtain ⟨_, _, _, _, _, _, _, _, _, _, _, _, _, _, _, _⟩ := bk8_ BK1003.out) | (go_at_call 74; (with_reducible refine (impl_areRecords.calls k _ _ l0_7 false _ ?side1 ?side2 A30.out).mono ?_); (case side1 => exact kC_ HR0_7.out HB.out); (case side2 => exact HC0_7.out); rintro e w106 ⟨rfl, hb⟩; replace BK1003 := a0_ (bkB_ BK1003 hb); replace HB := a0_ (below_step bq1_ hb); clear hb))
  go_ret
  exact ⟨rr_, bq1_⟩
 subst c31
 rw [if_pos rfl] at H
 by_cases c32 : a0_1 = true
 case pos =>
  subst c32
  rw [if_pos rfl] at H
  obtain rfl := Option.some.inj H
  go_enter Tryz.func105, Tryz.ntmps105
  go_wp2_with (first | ((with_reducible refine gate_dst (N := 1) rfl ?_); (try (refine gate_guard (by rfl) ?_; dsimp only)); refine boxS_ 1 #[.int .i64 a0_0, .bool true, .bool a0_2, .int .i64 a0_3, .string a0_4, .int .i64 a0_5, .slice A0_6 l0_6.length c0_6, .slice A0_7 l0_7.length c0_7] 62 (fun gb1003 hg w33 hbox hb => ?_); have BK1003 := a0_ (hbox); have GW1003 := a0_ (gw_ hg : w.heap.size ≤ gb1003); replace HB := a0_ (below_step bq0_ hb); have GE1003 := GW1003; clear hb hbox hg; obtain ⟨_, _, _, _, _, _, _, _, _, _, _, _, _, _, _, _⟩ := bk8_ BK1003.out) | ((with_reducible refine gt_ 84 rfl ?_); refine gs_ 5 Tryz.func84 #[.int .i64 a0_0, .int .i64 0, .int .i64 65535] ?_; (with_reducible refine (impl_within.calls a0_0 0 65535 true _ A2.out).mono ?_); rintro e w' ⟨rfl, ⟨nd, rfl⟩⟩; refine ⟨_, rfl, ?_⟩) | (go_at_call 160; (with_reducible refine (impl_isCode.calls k a0_3 true _ A4.out).mono ?_); rintro e w35 ⟨rfl, hb⟩; replace BK1003 := a0_ (bkB_ BK1003 hb); replace HB := a0_ (below_step bq1_ hb); clear hb; obtain ⟨_, _, _, _, _, _, _, _, _, _, _, _, _, _, _, _⟩ := bk8_ BK1003.out) | (go_at_call 83; (with_reducible refine (impl_GoodName.calls a0_4 true _ A6.out).mono ?_); rintro e w37 ⟨rfl, hb⟩; replace BK1003 := a0_ (bkB_ BK1003 hb); replace HB := a0_ (below_step bq1_ hb); clear hb; obtain ⟨_, _, _, _, _, _, _, _, _, _, _, _, _, _, _, _⟩ := bk8_ BK1003.out) | (go_at_call 161; (with_reducible refine (impl_isType.calls k a0_5 true _ A8.out).mono ?_); rintro e w39 ⟨rfl, hb⟩; replace BK1003 := a0_ (bkB_ BK1003 hb); replace HB := a0_ (below_step bq1_ hb); clear hb; obtain ⟨_, _, _, _, _, _, _, _, _, _, _, _, _, _, _, _⟩ := bk8_ BK1003.out) | (go_at_call 74; (with_reducible refine (impl_areRecords.calls k _ _ l0_6 true _ ?side1 ?side2 A28.out).mono ?_); (case side1 => exact kC_ HR0_6.out HB.out); (case side2 => exact HC0_6.out); rintro e w41 ⟨rfl, hb⟩; replace BK1003 := a0_ (bkB_ BK1003 hb); replace HB := a0_ (below_step bq1_ hb); clear hb; obtain ⟨_, _, _, _, _, _, _, _, _, _, _, _, _, _, _, _⟩ := bk8_ BK1003.out) | (go_at_call 74; (with_reducible refine (impl_areRecords.calls k _ _ l0_7 true _ ?side1 ?side2 A30.out).mono ?_); (case side1 => exact kC_ HR0_7.out HB.out); (case side2 => exact HC0_7.out); rintro e w43 ⟨rfl, hb⟩; replace BK1003 := a0_ (bkB_ BK1003 hb); replace HB := a0_ (below_step bq1_ hb); clear hb; obtain ⟨_, _, _, _, _, _, _, _, _, _, _, _, _, _, _, _⟩ := bk8_ BK1003.out))
  go_ret
  exact ⟨rr_, bq1_⟩
 replace c32 := Bool.eq_false_iff.mpr c32
 subst c32
 rw [if_neg ff_] at H
 by_cases c45 : a0_2 = true
 case pos =>
  subst c45
  rw [if_pos rfl] at H
  obtain rfl := Option.some.inj H
  go_enter Tryz.func105, Tryz.ntmps105
  go_wp2_with (first | ((with_reducible refine gate_dst (N := 1) rfl ?_); (try (refine gate_guard (by rfl) ?_; dsimp only)); refine boxS_ 1 #[.int .i64 a0_0, .bool false, .bool true, .int .i64 a0_3, .string a0_4, .int .i64 a0_5, .slice A0_6 l0_6.length c0_6, .slice A0_7 l0_7.length c0_7] 62 (fun gb1003 hg w46 hbox hb => ?_); have BK1003 := a0_ (hbox); have GW1003 := a0_ (gw_ hg : w.heap.size ≤ gb1003); replace HB := a0_ (below_step bq0_ hb); have GE1003 := GW1003; clear hb hbox hg; obtain ⟨_, _, _, _, _, _, _, _, _, _, _, _, _, _, _, _⟩ := bk8_ BK1003.out) | ((with_reducible refine gt_ 84 rfl ?_); refine gs_ 5 Tryz.func84 #[.int .i64 a0_0, .int .i64 0, .int .i64 65535] ?_; (with_reducible refine (impl_within.calls a0_0 0 65535 true _ A2.out).mono ?_); rintro e w' ⟨rfl, ⟨nd, rfl⟩⟩; refine ⟨_, rfl, ?_⟩) | (go_at_call 160; (with_reducible refine (impl_isCode.calls k a0_3 true _ A4.out).mono ?_); rintro e w48 ⟨rfl, hb⟩; replace BK1003 := a0_ (bkB_ BK1003 hb); replace HB := a0_ (below_step bq1_ hb); clear hb; obtain ⟨_, _, _, _, _, _, _, _, _, _, _, _, _, _, _, _⟩ := bk8_ BK1003.out) | (go_at_call 83; (with_reducible refine (impl_GoodName.calls a0_4 true _ A6.out).mono ?_); rintro e w50 ⟨rfl, hb⟩; replace BK1003 := a0_ (bkB_ BK1003 hb); replace HB := a0_ (below_step bq1_ hb); clear hb; obtain ⟨_, _, _, _, _, _, _, _, _, _, _, _, _, _, _, _⟩ := bk8_ BK1003.out) | (go_at_call 161; (with_reducible refine (impl_isType.calls k a0_5 true _ A8.out).mono ?_); rintro e w52 ⟨rfl, hb⟩; replace BK1003 := a0_ (bkB_ BK1003 hb); replace HB := a0_ (below_step bq1_ hb); clear hb; obtain ⟨_, _, _, _, _, _, _, _, _, _, _, _, _, _, _, _⟩ := bk8_ BK1003.out) | (go_at_call 74; (with_reducible refine (impl_areRecords.calls k _ _ l0_6 true _ ?side1 ?side2 A28.out).mono ?_); (case side1 => exact kC_ HR0_6.out HB.out); (case side2 => exact HC0_6.out); rintro e w54 ⟨rfl, hb⟩; replace BK1003 := a0_ (bkB_ BK1003 hb); replace HB := a0_ (below_step bq1_ hb); clear hb; obtain ⟨_, _, _, _, _, _, _, _, _, _, _, _, _, _, _, _⟩ := bk8_ BK1003.out) | (go_at_call 74; (with_reducible refine (impl_areRecords.calls k _ _ l0_7 true _ ?side1 ?side2 A30.out).mono ?_); (case side1 => exact kC_ HR0_7.out HB.out); (case side2 => exact HC0_7.out); rintro e w56 ⟨rfl, hb⟩; replace BK1003 := a0_ (bkB_ BK1003 hb); replace HB := a0_ (below_step bq1_ hb); clear hb; obtain ⟨_, _, _, _, _, _, _, _, _, _, _, _, _, _, _, _⟩ := bk8_ BK1003.out))
  go_ret
  exact ⟨rr_, bq1_⟩
 replace c45 := Bool.eq_false_iff.mpr c45
 subst c45
 rw [if_neg ff_] at H
 by_cases c58 : a0_3 = 0
 case neg =>
  rw [if_neg c58] at H
  have c58b0 := beq_eq_false_iff_ne.mpr c58
  have c58b1 := bne_iff_ne.mpr c58
  obtain rfl := Option.some.inj H
  go_enter Tryz.func105, Tryz.ntmps105
  go_wp2_with (first | ((with_reducible refine gate_dst (N := 1) rfl ?_); (try (refine gate_guard (by rfl) ?_; dsimp only)); refine boxS_ 1 #[.int .i64 a0_0, .bool false, .bool false, .int .i64 a0_3, .string a0_4, .int .i64 a0_5, .slice A0_6 l0_6.length c0_6, .slice A0_7 l0_7.length c0_7] 62 (fun gb1003 hg w84 hbox hb => ?_); have BK1003 := a0_ (hbox); have GW1003 := a0_ (gw_ hg : w.heap.size ≤ gb1003); replace HB := a0_ (below_step bq0_ hb); have GE1003 := GW1003; clear hb hbox hg; obtain ⟨_, _, _, _, _, _, _, _, _, _, _, _, _, _, _, _⟩ := bk8_ BK1003.out) | ((with_reducible refine gt_ 84 rfl ?_); refine gs_ 5 Tryz.func84 #[.int .i64 a0_0, .int .i64 0, .int .i64 65535] ?_; (with_reducible refine (impl_within.calls a0_0 0 65535 true _ A2.out).mono ?_); rintro e w' ⟨rfl, ⟨nd, rfl⟩⟩; refine ⟨_, rfl, ?_⟩) | (go_at_call 160; (with_reducible refine (impl_isCode.calls k a0_3 true _ A4.out).mono ?_); rintro e w86 ⟨rfl, hb⟩; replace BK1003 := a0_ (bkB_ BK1003 hb); replace HB := a0_ (below_step bq1_ hb); clear hb; obtain ⟨_, _, _, _, _, _, _, _, _, _, _, _, _, _, _, _⟩ := bk8_ BK1003.out) | (go_at_call 83; (with_reducible refine (impl_GoodName.calls a0_4 true _ A6.out).mono ?_); rintro e w88 ⟨rfl, hb⟩; replace BK1003 := a0_ (bkB_ BK1003 hb); replace HB := a0_ (below_step bq1_ hb); clear hb; obtain ⟨_, _, _, _, _, _, _, _, _, _, _, _, _, _, _, _⟩ := bk8_ BK1003.out) | (go_at_call 161; (with_reducible refine (impl_isType.calls k a0_5 true _ A8.out).mono ?_); rintro e w90 ⟨rfl, hb⟩; replace BK1003 := a0_ (bkB_ BK1003 hb); replace HB := a0_ (below_step bq1_ hb); clear hb; obtain ⟨_, _, _, _, _, _, _, _, _, _, _, _, _, _, _, _⟩ := bk8_ BK1003.out) | (go_at_call 74; (with_reducible refine (impl_areRecords.calls k _ _ l0_6 true _ ?side1 ?side2 A28.out).mono ?_); (case side1 => exact kC_ HR0_6.out HB.out); (case side2 => exact HC0_6.out); rintro e w92 ⟨rfl, hb⟩; replace BK1003 := a0_ (bkB_ BK1003 hb); replace HB := a0_ (below_step bq1_ hb); clear hb; obtain ⟨_, _, _, _, _, _, _, _, _, _, _, _, _, _, _, _⟩ := bk8_ BK1003.out) | (go_at_call 74; (with_reducible refine (impl_areRecords.calls k _ _ l0_7 true _ ?side1 ?side2 A30.out).mono ?_); (case side1 => exact kC_ HR0_7.out HB.out); (case side2 => exact HC0_7.out); rintro e w94 ⟨rfl, hb⟩; replace BK1003 := a0_ (bkB_ BK1003 hb); replace HB := a0_ (below_step bq1_ hb); clear hb; obtain ⟨_, _, _, _, _, _, _, _, _, _, _, _, _, _, _, _⟩ := bk8_ BK1003.out))
  go_ret
  exact ⟨rr_, bq1_⟩
 rw [if_pos c58] at H
 have c58b0 := beq_iff_eq.mpr c58
 have c58b1 := bne_eq_false_iff_eq.mpr c58
 clear c58
 by_cases c59 : (l0_6.length : Int) = 0
 case neg =>
  rw [if_neg c59] at H
  have c59b0 := beq_eq_false_iff_ne.mpr c59
  have c59b1 := bne_iff_ne.mpr c59
  have c59b2 : ¬ (l0_6 = []) := fun h_ => c59 (by rw [h_]; rfl)
  obtain rfl := Option.some.inj H
  go_enter Tryz.func105, Tryz.ntmps105
  go_wp2_with (first | ((with_reducible refine gate_dst (N := 1) rfl ?_); (try (refine gate_guard (by rfl) ?_; dsimp only)); refine boxS_ 1 #[.int .i64 a0_0, .bool false, .bool false, .int .i64 a0_3, .string a0_4, .int .i64 a0_5, .slice A0_6 l0_6.length c0_6, .slice A0_7 l0_7.length c0_7] 62 (fun gb1003 hg w72 hbox hb => ?_); have BK1003 := a0_ (hbox); have GW1003 := a0_ (gw_ hg : w.heap.size ≤ gb1003); replace HB := a0_ (below_step bq0_ hb); have GE1003 := GW1003; clear hb hbox hg; obtain ⟨_, _, _, _, _, _, _, _, _, _, _, _, _, _, _, _⟩ := bk8_ BK1003.out) | ((with_reducible refine gt_ 84 rfl ?_); refine gs_ 5 Tryz.func84 #[.int .i64 a0_0, .int .i64 0, .int .i64 65535] ?_; (with_reducible refine (impl_within.calls a0_0 0 65535 true _ A2.out).mono ?_); rintro e w' ⟨rfl, ⟨nd, rfl⟩⟩; refine ⟨_, rfl, ?_⟩) | (go_at_call 160; (with_reducible refine (impl_isCode.calls k a0_3 true _ A4.out).mono ?_); rintro e w74 ⟨rfl, hb⟩; replace BK1003 := a0_ (bkB_ BK1003 hb); replace HB := a0_ (below_step bq1_ hb); clear hb; obtain ⟨_, _, _, _, _, _, _, _, _, _, _, _, _, _, _, _⟩ := bk8_ BK1003.out) | (go_at_call 83; (with_reducible refine (impl_GoodName.calls a0_4 true _ A6.out).mono ?_); rintro e w76 ⟨rfl, hb⟩; replace BK1003 := a0_ (bkB_ BK1003 hb); replace HB := a0_ (below_step bq1_ hb); clear hb; obtain ⟨_, _, _, _, _, _, _, _, _, _, _, _, _, _, _, _⟩ := bk8_ BK1003.out) | (go_at_call 161; (with_reducible refine (impl_isType.calls k a0_5 true _ A8.out).mono ?_); rintro e w78 ⟨rfl, hb⟩; replace BK1003 := a0_ (bkB_ BK1003 hb); replace HB := a0_ (below_step bq1_ hb); clear hb; obtain ⟨_, _, _, _, _, _, _, _, _, _, _, _, _, _, _, _⟩ := bk8_ BK1003.out) | (go_at_call 74; (with_reducible refine (impl_areRecords.calls k _ _ l0_6 true _ ?side1 ?side2 A28.out).mono ?_); (case side1 => exact kC_ HR0_6.out HB.out); (case side2 => exact HC0_6.out); rintro e w80 ⟨rfl, hb⟩; replace BK1003 := a0_ (bkB_ BK1003 hb); replace HB := a0_ (below_step bq1_ hb); clear hb; obtain ⟨_, _, _, _, _, _, _, _, _, _, _, _, _, _, _, _⟩ := bk8_ BK1003.out) | (go_at_call 74; (with_reducible refine (impl_areRecords.calls k _ _ l0_7 true _ ?side1 ?side2 A30.out).mono ?_); (case side1 => exact kC_ HR0_7.out HB.out); (case side2 => exact HC0_7.out); rintro e w82 ⟨rfl, hb⟩; replace BK1003 := a0_ (bkB_ BK1003 hb); replace HB := a0_ (below_step bq1_ hb); clear hb; obtain ⟨_, _, _, _, _, _, _, _, _, _, _, _, _, _, _, _⟩ := bk8_ BK1003.out))
  go_ret
  exact ⟨rr_, bq1_⟩
 rw [if_pos c59] at H
 have c59b0 := beq_iff_eq.mpr c59
 have c59b1 := bne_eq_false_iff_eq.mpr c59
 clear c59
 obtain rfl := Option.some.inj H
 go_enter Tryz.func105, Tryz.ntmps105
 go_wp2_with (first | ((with_reducible refine gate_dst (N := 1) rfl ?_); (try (refine gate_guard (by rfl) ?_; dsimp only)); refine boxS_ 1 #[.int .i64 a0_0, .bool false, .bool false, .int .i64 a0_3, .string a0_4, .int .i64 a0_5, .slice A0_6 l0_6.length c0_6, .slice A0_7 l0_7.length c0_7] 62 (fun gb1003 hg w60 hbox hb => ?_); have BK1003 := a0_ (hbox); have GW1003 := a0_ (gw_ hg : w.heap.size ≤ gb1003); replace HB := a0_ (below_step bq0_ hb); have GE1003 := GW1003; clear hb hbox hg; obtain ⟨_, _, _, _, _, _, _, _, _, _, _, _, _, _, _, _⟩ := bk8_ BK1003.out) | ((with_reducible refine gt_ 84 rfl ?_); refine gs_ 5 Tryz.func84 #[.int .i64 a0_0, .int .i64 0, .int .i64 65535] ?_; (with_reducible refine (impl_within.calls a0_0 0 65535 true _ A2.out).mono ?_); rintro e w' ⟨rfl, ⟨nd, rfl⟩⟩; refine ⟨_, rfl, ?_⟩) | (go_at_call 160; (with_reducible refine (impl_isCode.calls k a0_3 true _ A4.out).mono ?_); rintro e w62 ⟨rfl, hb⟩; replace BK1003 := a0_ (bkB_ BK1003 hb); replace HB := a0_ (below_step bq1_ hb); clear hb; obtain ⟨_, _, _, _, _, _, _, _, _, _, _, _, _, _, _, _⟩ := bk8_ BK1003.out) | (go_at_call 83; (with_reducible refine (impl_GoodName.calls a0_4 true _ A6.out).mono ?_); rintro e w64 ⟨rfl, hb⟩; replace BK1003 := a0_ (bkB_ BK1003 hb); replace HB := a0_ (below_step bq1_ hb); clear hb; obtain ⟨_, _, _, _, _, _, _, _, _, _, _, _, _, _, _, _⟩ := bk8_ BK1003.out) | (go_at_call 161; (with_reducible refine (impl_isType.calls k a0_5 true _ A8.out).mono ?_); rintro e w66 ⟨rfl, hb⟩; replace BK1003 := a0_ (bkB_ BK1003 hb); replace HB := a0_ (below_step bq1_ hb); clear hb; obtain ⟨_, _, _, _, _, _, _, _, _, _, _, _, _, _, _, _⟩ := bk8_ BK1003.out) | (go_at_call 74; (with_reducible refine (impl_areRecords.calls k _ _ l0_6 true _ ?side1 ?side2 A28.out).mono ?_); (case side1 => exact kC_ HR0_6.out HB.out); (case side2 => exact HC0_6.out); rintro e w68 ⟨rfl, hb⟩; replace BK1003 := a0_ (bkB_ BK1003 hb); replace HB := a0_ (below_step bq1_ hb); clear hb; obtain ⟨_, _, _, _, _, _, _, _, _, _, _, _, _, _, _, _⟩ := bk8_ BK1003.out) | (go_at_call 74; (with_reducible refine (impl_areRecords.calls k _ _ l0_7 true _ ?side1 ?side2 A30.out).mono ?_); (case side1 => exact kC_ HR0_7.out HB.out); (case side2 => exact HC0_7.out); rintro e w70 ⟨rfl, hb⟩; replace BK1003 := a0_ (bkB_ BK1003 hb); replace HB := a0_ (below_step bq1_ hb); clear hb; obtain ⟨_, _, _, _, _, _, _, _, _, _, _, _, _, _, _, _⟩ := bk8_ BK1003.out))
 go_ret
 exact ⟨rr_, bq1_⟩
mutual
def spec_l2Put.l0 : Nat → ByteArray → ByteArray → List Int → ByteArray → Option (ByteArray)
 | 0, _, _, _, _ => none
 | k + 1, x0, x1, x5, x6 => if x1.toList = ([] : List UInt8) then (if x0.size + x6.size ≤ 9223372036854775807 then (if (x0 ++ x6).size + 1 ≤ 9223372036854775807 then (some ((x0 ++ x6) ++ (⟨#[0]⟩ : ByteArray))) else (none)) else (none)) else (spec_l2Put.l1 k x0 x1 x5 x6 x5 (x5.length : Int) 0)
def spec_l2Put.l1 : Nat → ByteArray → ByteArray → List Int → ByteArray → List Int → Int → Int → Option (ByteArray)
 | 0, _, _, _, _, _, _, _ => none
 | k + 1, x0, x1, x5, x6, x19, x20, x21 => if x21 < x20 then (if 0 ≤ x21 then (if x21 < (x19.length : Int) then ((spec_l2Take.f k x0 (rd x19 x21)).bind fun bt285 => (if bt285.2.2.2 = true then (if bt285.1.toList = x1.toList then (if x0.size + x6.size ≤ 9223372036854775807 then ((some (([(wrap64 (192 + (wrap64 (Int.tdiv (rd x19 x21) 256)))) % 256, (rd x19 x21) % 256] : List Int) : List Int)).bind fun y291 => (if (x0 ++ x6).size + (strOfNums y291).size ≤ 9223372036854775807 then (some ((x0 ++ x6) ++ (strOfNums y291))) else (none))) else (none)) else (spec_l2Put.l1 k x0 x1 x5 x6 x19 x20 (wrap64 (x21 + 1)))) else (spec_l2Put.l1 k x0 x1 x5 x6 x19 x20 (wrap64 (x21 + 1))))) else (none)) else (none)) else ((spec_l1Labels.f k x1).bind fun bt294 => (if 0 < (bt294.1.length : Int) then ((some (([(((rdOf ByteArray.empty bt294.1 0).size : Int)) % 256] : List Int) : List Int)).bind fun y299 => (if (strOfNums y299).size + (rdOf ByteArray.empty bt294.1 0).size ≤ 9223372036854775807 then (if x6.size + ((strOfNums y299) ++ (rdOf ByteArray.empty bt294.1 0)).size ≤ 9223372036854775807 then ((spec_l1Parent.f k x1).bind fun t303 => (spec_l2Put.l0 k x0 t303 x5 (x6 ++ ((strOfNums y299) ++ (rdOf ByteArray.empty bt294.1 0))))) else (none)) else (none))) else (none)))
end
def spec_l2Put.f (k : Nat) (a0 : ByteArray) (a1 : ByteArray) : Option (ByteArray) := (spec_l2Suffixes.f k a0).bind fun t281 => (spec_l2Put.l0 k a0 a1 t281 (⟨#[]⟩ : ByteArray))
theorem cell_two (w : World) (x0 x1 : Int) (t : TypeId) (j : Nat) (hj : j < 2) : (w.alloc (Obj.cells #[.int .u8 x0, .int .u8 x1] t)).cell? ((⟨w.heap.size, 0, none⟩ : Addr).add j) = some (.int .u8 (([x0, x1] : List Int).getD j 0)) := by
 rw [add_plain]
 unfold World.cell?
 rw [heap_alloc_new]
 rcases j with _ | _ | j
 · simp
 · simp
 · omega
set_option maxHeartbeats 4000000 in
theorem spec_l2Put.calls (k : Nat) (a0 : ByteArray) (a1 : ByteArray) (r : ByteArray) (w : World) (h : spec_l2Put.f k a0 a1 = some r) :
 Calls Tryz.prog 196 #[.string a0, .string a1] w fun e w' => e = .returned (.string r) ∧ Below w.heap.size w w' := by
 unfold spec_l2Put.f at h
 obtain ⟨places, hp, h⟩ := Option.bind_eq_some_iff.mp h
 have sc := fun W => spec_l2Suffixes.calls k a0 places W hp
 have H' := Aside0.mk h
 clear h
 go_enter Tryz.func196, Tryz.ntmps196
 go_wp2_with (go_at_call 237; refine (sc _).mono ?_; rintro e w1 ⟨v, rfl, hR, hbw⟩; have HO := Aside0.mk hR; have HB1 := Aside0.mk hbw; clear hR hbw; obtain ⟨A, c, rfl⟩ := Kd.R_slice HO.out)
 go_loopg [1, 6] k (fun kq v1 v6 wr => ∃ (rest head : ByteArray), v1 = .string rest ∧ v6 = .string head ∧ Aside0 (spec_l2Put.l0 kq a0 rest places head = some r) ∧ Aside0 (kq ≤ k) ∧ Aside0 (Kd.C (Kd.int .i64) wr A places.length places) ∧ Aside0 (Below w.heap.size w wr))
 case atStart => exact ⟨a1, (⟨#[]⟩ : ByteArray), rfl, rfl, H', ⟨Nat.le_refl _⟩, ⟨(Kd.R_reads' HO.out).2.2⟩, HB1⟩
 case round =>
  obtain ⟨rest, head, rfl, rfl, HA, HK1, HC, BW⟩ := hrel
  cases gk with
  | zero => exact absurd HA.out (by simp [spec_l2Put.l0])
  | succ k1 =>
   have H := HA.out
   clear HA
   simp only [spec_l2Put.l0] at H
   by_cases c1 : rest.toList = ([] : List UInt8)
   · rw [if_pos c1] at H
     have c1b : (rest.toList == ([] : List UInt8)) = true := by rw [c1]; rfl
     have c1c : (rest.toList != ([] : List UInt8)) = false := by rw [c1]; rfl
     by_cases c4 : a0.size + head.size ≤ 9223372036854775807
     · rw [if_pos c4] at H
       by_cases c5 : (a0 ++ head).size + 1 ≤ 9223372036854775807
       · rw [if_pos c5] at H
         have c4a := eq_true c4
         have c4c : (9223372036854775807 < a0.size + head.size) = False := eq_false (by omega)
         have hbs : (a0 ++ head).size = a0.size + head.size := ByteArray.size_append
         rw [hbs] at c5
         have c6a := eq_true c5
         have c6c : (9223372036854775807 < a0.size + head.size + 1) = False := eq_false (by omega)
         clear hbs
         go_wp2
         go_ret
         obtain rfl := Option.some.inj H
         exact ⟨rfl, BW.out⟩
       · rw [if_neg c5] at H; cases H
     · rw [if_neg c4] at H; cases H
   · rw [if_neg c1] at H
     have c1b : (rest.toList == ([] : List UInt8)) = false := beq_eq_false_iff_ne.mpr c1
     have c1c : (rest.toList != ([] : List UInt8)) = true := by rw [bne, c1b]; rfl
     have HI := Aside0.mk H
     clear H
     go_wp2
     go_loopg [21] k1 (fun kq v21 wi => ∃ (x : Int), v21 = .int .i64 x ∧ Aside0 (spec_l2Put.l1 kq a0 rest places head places (places.length : Int) x = some r) ∧ Aside0 (kq ≤ k1) ∧ Aside0 (Kd.C (Kd.int .i64) wi A places.length places) ∧ Aside0 (Below w.heap.size w wi))
     case atStart => exact ⟨0, rfl, HI, ⟨Nat.le_refl _⟩, HC, BW⟩
     case round =>
      clear HI HC BW
      obtain ⟨x, rfl, HA, HK2, HC, BW⟩ := hrel
      cases gk with
      | zero => exact absurd HA.out (by simp [spec_l2Put.l1])
      | succ k2 =>
       have H := HA.out
       clear HA
       simp only [spec_l2Put.l1] at H
       by_cases c7 : x < (places.length : Int)
       · rw [if_pos c7] at H
         have c7b : decide (x < (places.length : Int)) = true := decide_eq_true c7
         by_cases c8 : 0 ≤ x
         · rw [if_pos c8, if_pos c7] at H
           obtain ⟨⟨t1, t2, t3, t4⟩, ht, H⟩ := Option.bind_eq_some_iff.mp H
           replace H := H
           have tc := fun W => spec_l2Take.calls k2 a0 (rd places x) t1 t2 t3 t4 W ht
           obtain ⟨ad, e0, hx⟩ := Kd.at_int HC.out x c8 c7
           cases e0
           have c7z := eq_true c7
           have c8z := eq_true c8
           generalize rd places x = pv at H tc hx
           have HN := Aside0.mk H
           clear H
           cases t4 with
           | false =>
            have HN2 : Aside0 (spec_l2Put.l1 k2 a0 rest places head places (places.length : Int) (wrap64 (x + 1)) = some r) := ⟨by have := HN.out; simpa using this⟩
            clear HN
            go_wp2_with (go_at_call 115; refine (tc _).mono ?_; rintro e w2 ⟨v, rfl, hR2, hb2⟩)
            go_roundg k2
            case measure => have := HK2.out; omega
            case rel => exact ⟨wrap64 (x + 1), rfl, HN2, ⟨by have := HK2.out; omega⟩, ⟨Kd.C_below HC.out hb2⟩, ⟨below_then BW.out BW.out.size hb2⟩⟩
           | true =>
            by_cases c9 : t1.toList = rest.toList
            · have c9b : (t1.toList == rest.toList) = true := beq_iff_eq.mpr c9
              have HE := HN.out
              rw [if_pos rfl, if_pos c9] at HE
              clear HN
              by_cases c10 : a0.size + head.size ≤ 9223372036854775807
              · rw [if_pos c10] at HE
                have c10a := eq_true c10
                have c10c : (9223372036854775807 < a0.size + head.size) = False := eq_false (by omega)
                have hcv0 := fun W : World => string_of_reads (P := Tryz.prog) (src := 43) (dst := 9) (c := 2) (w := W.alloc (Obj.cells #[.int .u8 ((wrap64 (192 + (wrap64 (Int.tdiv pv 256)))) % 256), .int .u8 (pv % 256)] 5)) (A := some ⟨W.heap.size, 0, none⟩) (n := 2) (xs := [(wrap64 (192 + (wrap64 (Int.tdiv pv 256)))) % 256, pv % 256]) Tryz.underlying43 Tryz.underlying5 Tryz.underlying9 ⟨rfl, by omega, fun _ => ⟨_, rfl, fun j hj => cell_two W _ _ _ j hj⟩⟩
                replace HE : (if (a0 ++ head).size + (strOfNums [(wrap64 (192 + (wrap64 (Int.tdiv pv 256)))) % 256, pv % 256]).size ≤ 9223372036854775807 then some ((a0 ++ head) ++ strOfNums [(wrap64 (192 + (wrap64 (Int.tdiv pv 256)))) % 256, pv % 256]) else none) = some r := HE
                generalize strOfNums [(wrap64 (192 + (wrap64 (Int.tdiv pv 256)))) % 256, pv % 256] = sb at HE hcv0
                by_cases c11 : (a0 ++ head).size + sb.size ≤ 9223372036854775807
                · rw [if_pos c11] at HE
                  rw [ByteArray.size_append] at c11
                  have c11a := eq_true c11
                  have c11c : (9223372036854775807 < a0.size + head.size + sb.size) = False := eq_false (by omega)
                  obtain rfl := Option.some.inj HE
                  clear HE
                  go_wp2_with (go_at_call 115; refine (tc _).mono ?_; rintro e w2 ⟨v, rfl, hR2, hb2⟩; have hcv := hcv0 w2)
                  go_ret
                  exact ⟨rfl, below_alloc (below_then BW.out BW.out.size hb2) _⟩
                · rw [if_neg c11] at HE; cases HE
              · rw [if_neg c10] at HE; cases HE
            · have c9b : (t1.toList == rest.toList) = false := beq_eq_false_iff_ne.mpr c9
              have HN2 : Aside0 (spec_l2Put.l1 k2 a0 rest places head places (places.length : Int) (wrap64 (x + 1)) = some r) := ⟨by have := HN.out; simpa [c9] using this⟩
              clear HN
              go_wp2_with (go_at_call 115; refine (tc _).mono ?_; rintro e w2 ⟨v, rfl, hR2, hb2⟩)
              go_roundg k2
              case measure => have := HK2.out; omega
              case rel => exact ⟨wrap64 (x + 1), rfl, HN2, ⟨by have := HK2.out; omega⟩, ⟨Kd.C_below HC.out hb2⟩, ⟨below_then BW.out BW.out.size hb2⟩⟩
         · rw [if_neg c8] at H; cases H
       · rw [if_neg c7] at H
         have c7b : decide (x < (places.length : Int)) = false := decide_eq_false c7
         have H2 := H
         clear H
         obtain ⟨⟨lab, lok⟩, hlab, H2⟩ := Option.bind_eq_some_iff.mp H2
         have lc := fun W => spec_l1Labels.calls k2 rest lab lok W hlab
         by_cases c12 : 0 < (lab.length : Int)
         · replace H2 : (if 0 < (lab.length : Int) then ((some (([(((rdOf ByteArray.empty lab 0).size : Int)) % 256] : List Int) : List Int)).bind fun y299 => (if (strOfNums y299).size + (rdOf ByteArray.empty lab 0).size ≤ 9223372036854775807 then (if head.size + ((strOfNums y299) ++ (rdOf ByteArray.empty lab 0)).size ≤ 9223372036854775807 then ((spec_l1Parent.f k2 rest).bind fun t303 => (spec_l2Put.l0 k2 a0 t303 places (head ++ ((strOfNums y299) ++ (rdOf ByteArray.empty lab 0))))) else (none)) else (none))) else (none)) = some r := H2
           rw [if_pos c12] at H2
           obtain ⟨lab0, hl0⟩ : ∃ y, y = rdOf ByteArray.empty lab 0 := ⟨_, rfl⟩
           rw [← hl0] at H2
           replace H2 : (if (strOfNums [((lab0.size : Int)) % 256]).size + lab0.size ≤ 9223372036854775807 then (if head.size + ((strOfNums [((lab0.size : Int)) % 256]) ++ lab0).size ≤ 9223372036854775807 then ((spec_l1Parent.f k2 rest).bind fun t303 => (spec_l2Put.l0 k2 a0 t303 places (head ++ ((strOfNums [((lab0.size : Int)) % 256]) ++ lab0)))) else (none)) else (none)) = some r := H2
           obtain ⟨y, hy⟩ : ∃ y : List Int, y = [((lab0.size : Int)) % 256] := ⟨_, rfl⟩
           rw [← hy] at H2
           have Ny := Aside0.mk hy
           clear hy
           by_cases c13 : (strOfNums y).size + lab0.size ≤ 9223372036854775807
           · rw [if_pos c13, ByteArray.size_append] at H2
             by_cases c14 : head.size + ((strOfNums y).size + lab0.size) ≤ 9223372036854775807
             · rw [if_pos c14] at H2
               obtain ⟨par, hpar, H2⟩ := Option.bind_eq_some_iff.mp H2
               have pc := fun W => spec_l1Parent.calls k2 rest par W hpar
               have HN := Aside0.mk H2
               clear H2
               have c13a := eq_true c13
               have c13c : (9223372036854775807 < (strOfNums y).size + lab0.size) = False := eq_false (by omega)
               have c14a := eq_true c14
               have c14c : (9223372036854775807 < head.size + ((strOfNums y).size + lab0.size)) = False := eq_false (by omega)
               have c12z := eq_true (show 0 < lab.length by omega)
               have HL0 := Aside0.mk hl0
               clear hl0
               go_wp2_with (go_at_call 171; refine (lc _).mono ?_; rintro e w2 ⟨v, rfl, hR2, hb2⟩; obtain ⟨A2, cL, rfl⟩ := Kd.R_slice hR2)
               obtain ⟨ad, e0, hx⟩ := Kd.at_string (Kd.R_reads' hR2).2.2 0 (Int.le_refl 0) c12
               cases e0
               rw [← HL0.out] at hx
               replace hx : w2.cell? ad = some (.string lab0) := by have := hx; rwa [show ((0 : Int)).toNat = 0 from rfl, Addr.add_zero'] at this
               have HC3 := Aside0.mk (Kd.C_below HC.out hb2)
               have BW3 := Aside0.mk (below_then BW.out BW.out.size hb2)
               clear hR2 hb2
               have BW3 := Aside0.mk (below_drew1 BW3.out)
               have HC3 := Aside0.mk (Kd.C_below HC3.out (below_drew1 (Below.refl _ _)))
               refine start_ (n := 14) (S := fun w' => w'.cell? ad = some (.string lab0)) (ds := []) #[false, false, false, false, false, false, false, false, false, false, false, false, false, false] (by kernel_rfl) rfl rfl (hx) (fun hHeld => ?_)
               generalize hw3 : w2.drew = w3 at BW3 HC3 hx hHeld ⊢
               refine pure_ (i := 0) (N := some 57) (v := ?_) (a' := ?_) #[true, false, false, false, false, false, false, false, false, false, false, false, false, false] rfl rfl (by kernel_rfl) (fun _ _ _ h => h) (Or.inl ⟨by rfl, ?_⟩) ?_ ?_
               rotate_left
               · intro w'
                 go_simp
                 with_reducible rfl
               rotate_left
               · simp only [Act.put, List.setIfInBounds_toArray, List.set_cons_zero, List.set_cons_succ, i64_w, i32_w]
                 rfl
               refine pure_ (i := 1) (N := some 58) (v := ?_) (a' := ?_) #[true, true, false, false, false, false, false, false, false, false, false, false, false, false] rfl rfl (by kernel_rfl) (fun _ _ _ h => h) (Or.inl ⟨by rfl, ?_⟩) ?_ ?_
               rotate_left
               · intro w'
                 go_simp
                 with_reducible rfl
               rotate_left
               · simp only [Act.put, List.setIfInBounds_toArray, List.set_cons_zero, List.set_cons_succ, i64_w, i32_w]
                 rfl
               refine pure_ (i := 2) (N := some 59) (v := ?_) (a' := ?_) #[true, true, true, false, false, false, false, false, false, false, false, false, false, false] rfl rfl (by kernel_rfl) (fun _ _ _ h => h) (Or.inl ⟨by rfl, ?_⟩) ?_ ?_
               rotate_left
               · intro w'
                 go_simp
                 with_reducible rfl
               rotate_left
               · simp only [Act.put, List.setIfInBounds_toArray, List.set_cons_zero, List.set_cons_succ, i64_w, i32_w]
                 rfl
               refine pure_ (i := 8) (N := some 65) (v := ?_) (a' := ?_) #[true, true, true, false, false, false, false, false, true, false, false, false, false, false] rfl rfl (by kernel_rfl) (fun _ _ _ h => h) (Or.inl ⟨by rfl, ?_⟩) ?_ ?_
               rotate_left
               · intro w'
                 go_simp
                 with_reducible rfl
               rotate_left
               · simp only [Act.put, List.setIfInBounds_toArray, List.set_cons_zero, List.set_cons_succ, i64_w, i32_w]
                 rfl
               refine pure_ (i := 9) (N := some 66) (v := ?_) (a' := ?_) #[true, true, true, false, false, false, false, false, true, true, false, false, false, false] rfl rfl (by kernel_rfl) (fun _ _ _ h => h) (Or.inl ⟨by rfl, ?_⟩) ?_ ?_
               rotate_left
               · intro w'
                 go_simp
                 with_reducible rfl
               rotate_left
               · simp only [Act.put, List.setIfInBounds_toArray, List.set_cons_zero, List.set_cons_succ, i64_w, i32_w]
                 rfl
               refine take_ (i := 3) (N := some 60) (v := ?_) (a' := ?_) #[true, true, true, true, false, false, false, false, true, true, false, false, false, false] rfl rfl (by kernel_rfl) (fun _ _ _ h => h) (Or.inl ⟨by rfl, ?_⟩) hHeld ?_ ?_
               rotate_left
               · intro w' s0
                 go_simp
                 with_reducible rfl
               rotate_left
               · simp only [Act.put, List.setIfInBounds_toArray, List.set_cons_zero, List.set_cons_succ, i64_w, i32_w]
                 rfl
               refine pure_ (i := 4) (N := some 61) (v := ?_) (a' := ?_) #[true, true, true, true, true, false, false, false, true, true, false, false, false, false] rfl rfl (by kernel_rfl) (fun _ _ _ h => h) (Or.inl ⟨by rfl, ?_⟩) ?_ ?_
               rotate_left
               · intro w'
                 go_simp
                 with_reducible rfl
               rotate_left
               · simp only [Act.put, List.setIfInBounds_toArray, List.set_cons_zero, List.set_cons_succ, i64_w, i32_w]
                 rfl
               refine pure_ (i := 5) (N := some 62) (v := ?_) (a' := ?_) #[true, true, true, true, true, true, false, false, true, true, false, false, false, false] rfl rfl (by kernel_rfl) (fun _ _ _ h => h) (Or.inl ⟨by rfl, ?_⟩) ?_ ?_
               rotate_left
               · intro w'
                 go_simp
                 with_reducible rfl
               rotate_left
               · simp only [Act.put, List.setIfInBounds_toArray, List.set_cons_zero, List.set_cons_succ, i64_w, i32_w]
                 rfl
               refine take_ (i := 10) (N := some 67) (v := ?_) (a' := ?_) #[true, true, true, true, true, true, false, false, true, true, true, false, false, false] rfl rfl (by kernel_rfl) (fun _ _ _ h => h) (Or.inl ⟨by rfl, ?_⟩) hHeld ?_ ?_
               rotate_left
               · intro w' s0
                 go_simp
                 with_reducible rfl
               rotate_left
               · simp only [Act.put, List.setIfInBounds_toArray, List.set_cons_zero, List.set_cons_succ, i64_w, i32_w]
                 rfl
               refine one_ (i := 6) (N := some 63) #[true, true, true, true, true, true, true, false, true, true, true, false, false, false] rfl rfl (by kernel_rfl) (by decide) (fun K hK => ?_)
               refine Kd.R_lit_step (Kd.int .u8) _ 5 ?hg (N := 63) ?hd (xs := ([((lab0.size : Int)) % 256] : List Int)) (inner := [.int .u8 (((lab0.size : Int)) % 256)]) (ok := fun _ => True) (okp := fun _ => True) ?hr ?hp (fun _ hk => hk) trivial (Below.refl _ _) (Nat.le_refl _) (by simp) ?_; (case hd => rfl); (case hg => rfl); (case hr => first | (go_simp; done) | (go_simp; rfl)); (case hp => exact (Reps.one (show Kd.M (Kd.int .u8) _ _ _ (((lab0.size : Int)) % 256) [.int .u8 (((lab0.size : Int)) % 256)] from rfl) (Reps.none _ _)))
               intro vL wL hoL hb hg_ hnew_
               have HS0_ := (hb.cell (World.block_lt_of_cell? _ _ (hHeld))).trans (hHeld)
               (first | rw [← Ny.out] at hoL | (simp only [Int.reduceToNat] at hoL; rw [← Ny.out] at hoL)); have HLIT := Aside0.mk hoL
               have n4_ := Aside0.mk (below_step BW3.out hb)
               clear BW3
               have BW3 := n4_
               have n5_ := Aside0.mk (Kd.C_below HC3.out hb)
               clear HC3
               have HC3 := n5_
               clear n4_ n5_ hg_ hnew_ hb hoL
               refine hK.out _ _ (HS0_) (fun hHeld => ?_)
               clear hK K
               refine norm_ (a' := ?_) ?_ ?_
               rotate_left
               · show Act.put _ (some 63) _ = _
                 simp only [Act.put, List.setIfInBounds_toArray, List.set_cons_zero, List.set_cons_succ, i64_w, i32_w]
                 rfl
               refine one_ (i := 7) (N := some 64) #[true, true, true, true, true, true, true, true, true, true, true, false, false, false] rfl rfl (by kernel_rfl) (by decide) (fun K hK => ?_)
               have hcvL := own_string (P := Tryz.prog) Tryz.underlying43 Tryz.underlying5 Tryz.underlying9 (Kd.own_of_R HLIT.out)
               refine value_ (w1 := ?_) (v := ?_) (by rfl) rfl ?_ ?_
               rotate_left 2
               · go_simp
                 constructor
                 · rfl
                 · rfl
               clear hcvL
               refine hK.out _ _ (hHeld) (fun hHeld => ?_)
               clear hK K
               refine norm_ (a' := ?_) ?_ ?_
               rotate_left
               · show Act.put _ (some 64) _ = _
                 simp only [Act.put, List.setIfInBounds_toArray, List.set_cons_zero, List.set_cons_succ, i64_w, i32_w]
                 rfl
               refine pure_ (i := 11) (N := some 68) (v := ?_) (a' := ?_) #[true, true, true, true, true, true, true, true, true, true, true, true, false, false] rfl rfl (by kernel_rfl) (fun _ _ _ h => h) (Or.inl ⟨by rfl, ?_⟩) ?_ ?_
               rotate_left
               · intro w'
                 go_simp
                 with_reducible rfl
               rotate_left
               · simp only [Act.put, List.setIfInBounds_toArray, List.set_cons_zero, List.set_cons_succ, i64_w, i32_w]
                 rfl
               refine pure_ (i := 12) (N := some 69) (v := ?_) (a' := ?_) #[true, true, true, true, true, true, true, true, true, true, true, true, true, false] rfl rfl (by kernel_rfl) (fun _ _ _ h => h) (Or.inl ⟨by rfl, ?_⟩) ?_ ?_
               rotate_left
               · intro w'
                 go_simp
                 with_reducible rfl
               rotate_left
               · simp only [Act.put, List.setIfInBounds_toArray, List.set_cons_zero, List.set_cons_succ, i64_w, i32_w]
                 rfl
               refine pure_ (i := 13) (N := some 6) (v := ?_) (a' := ?_) #[true, true, true, true, true, true, true, true, true, true, true, true, true, true] rfl rfl (by kernel_rfl) (fun _ _ _ h => h) (Or.inl ⟨by rfl, ?_⟩) ?_ ?_
               rotate_left
               · intro w'
                 go_simp
                 with_reducible rfl
               rotate_left
               · simp only [Act.put, List.setIfInBounds_toArray, List.set_cons_zero, List.set_cons_succ, i64_w, i32_w]
                 rfl
               refine done_ (by kernel_rfl) ?_
               go_wp2_with (go_at_call 238; refine (pc _).mono ?_; rintro e w5_ ⟨rfl, ⟨nd5, rfl⟩⟩)
               have bdn := pw_below_drewN (Below.refl wL.heap.size wL) nd5
               go_roundg k2
               case measure => have := HK1.out; have := HK2.out; omega
               case rel => exact ⟨par, head ++ (strOfNums y ++ lab0), rfl, rfl, HN, ⟨by have := HK1.out; have := HK2.out; omega⟩, ⟨Kd.C_below HC3.out bdn⟩, ⟨below_then BW3.out BW3.out.size bdn⟩⟩
             · rw [if_neg c14] at H2; cases H2
           · rw [if_neg c13] at H2; cases H2
         · replace H2 : (if 0 < (lab.length : Int) then _ else none) = some r := H2
           rw [if_neg c12] at H2
           cases H2
end Go.Proofs.YtiegkjimpclmaaaGreatDoor.P
namespace Go.Proofs.YtiegkjimpclmaaaGreatDoor.P
theorem put_closure (k : Nat) (b rest : ByteArray) (x : Int) (t1 : ByteArray) (t2 : List Int) (t3 : Int) (t4 : Bool) (h : impl_takeName.f k b x = some (t1, t2, t3, t4)) (W : World) (gb gr : Nat)
 (hb : W.cell? ⟨gb, 0, none⟩ = some (.string b)) (hr : W.cell? ⟨gr, 0, none⟩ = some (.string rest)) :
 Calls Tryz.prog 243 #[.int .i64 x, .pointer (some ⟨gb, 0, none⟩), .pointer (some ⟨gr, 0, none⟩)] W fun e W' => e = .returned (.bool (t4 && (t1.toList == rest.toList))) ∧ Below W.heap.size W W' := by
 have tc := impl_takeName.calls k b x t1 t2 t3 t4 W h
 clear h
 cases t4 with
 | false =>
  go_enter Tryz.func243, Tryz.ntmps243
  go_wp2_with (go_at_call 125; refine tc.mono ?_; rintro e w1 ⟨v, rfl, hR, hbw⟩; have l1 := (hbw.cell (World.block_lt_of_cell? _ _ hr)).trans hr)
  go_ret
  exact ⟨rfl, hbw⟩
 | true =>
  cases hq : (t1.toList == rest.toList) with
  | true =>
   go_enter Tryz.func243, Tryz.ntmps243
   go_wp2_with (go_at_call 125; refine tc.mono ?_; rintro e w1 ⟨v, rfl, hR, hbw⟩; have l1 := (hbw.cell (World.block_lt_of_cell? _ _ hr)).trans hr)
   go_ret
   exact ⟨by first | rfl | simp [hq], hbw⟩
  | false =>
   go_enter Tryz.func243, Tryz.ntmps243
   go_wp2_with (go_at_call 125; refine tc.mono ?_; rintro e w1 ⟨v, rfl, hR, hbw⟩; have l1 := (hbw.cell (World.block_lt_of_cell? _ _ hr)).trans hr)
   go_ret
   exact ⟨by first | rfl | simp [hq], hbw⟩
end Go.Proofs.YtiegkjimpclmaaaGreatDoor.P
namespace Go.Proofs.YtiegkjimpclmaaaGreatDoor.Pure
open Go.Proofs.YtiegkjimpclmaaaGreatDoor.P
set_option linter.unusedSectionVars false
theorem tail_cons (y : List UInt8) (r : List (List UInt8)) : Lib.joinTail [46] (y :: r) = 46 :: (y ++ Lib.joinTail [46] r) := by simp [Lib.joinTail]
theorem join_loop (L : List ByteArray) (hL : ∀ x ∈ L, x.size ≤ 1000) (hn : L.length ≤ 1000) : ∀ (m i : Nat) (acc : ByteArray), i + m = L.length → 0 < i → acc.size + m * 1100 < 1099511627776 →
 Ev (fun k => spec_l1Join.l0 k acc L (L.length : Int) (i : Int)) (mkB (acc.data.toList ++ Lib.joinTail [46] ((L.drop i).map (·.data.toList))))
 | 0, i, acc, him, hi, ha => by
  refine Ev.step (f := fun _ => some acc) (fun k => ?_) ?_
  · show spec_l1Join.l0 (k + 1) acc L (L.length : Int) (i : Int) = _
    conv => lhs; unfold spec_l1Join.l0
    rw [if_neg (by omega)]
  · rw [List.drop_of_length_le (by omega)]
    simp only [List.map_nil, show Lib.joinTail [46] ([] : List (List UInt8)) = [] from rfl, List.append_nil, data_mkB]
    exact Ev.now _
 | m + 1, i, acc, him, hi, ha => by
  have hil : i < L.length := by omega
  have hrd : rdOf ByteArray.empty L (i : Int) = L[i] := by
   unfold rdOf
   rw [Int.toNat_natCast, List.getD_eq_getElem?_getD, List.getElem?_eq_getElem hil]
   rfl
  have hsz := hL _ (List.getElem_mem hil)
  have h46 : (⟨#[46]⟩ : ByteArray).size = 1 := rfl
  have ih := join_loop L hL hn m (i + 1) ((acc ++ (⟨#[46]⟩ : ByteArray)) ++ L[i]) (by omega) (by omega) (by rw [ByteArray.size_append, ByteArray.size_append, h46]; omega)
  have e : acc.data.toList ++ Lib.joinTail [46] ((L.drop i).map (·.data.toList)) = ((acc ++ (⟨#[46]⟩ : ByteArray)) ++ L[i]).data.toList ++ Lib.joinTail [46] ((L.drop (i + 1)).map (·.data.toList)) := by
   rw [List.drop_eq_getElem_cons hil, List.map_cons, tail_cons]
   simp [ByteArray.data_append]
  rw [e]
  refine Ev.step (fun k => ?_) ih
  show spec_l1Join.l0 (k + 1) acc L (L.length : Int) (i : Int) = _
  conv => lhs; unfold spec_l1Join.l0
  rw [if_pos (by omega), if_pos (by omega), if_pos (by omega), if_pos (by omega), hrd, if_pos (by omega), if_pos (by rw [ByteArray.size_append, h46]; omega), w64n (by omega)]
theorem join_ev (L : List ByteArray) (hL : ∀ x ∈ L, x.size ≤ 1000) (hn : L.length ≤ 1000) : Ev (fun k => spec_l1Join.f k L) (mkB (joinL L)) := by
 cases L with
 | nil =>
  refine Ev.of (fun k => spec_l1Join.mono _ _) (k := 1) ?_
  unfold spec_l1Join.f
  conv => lhs; unfold spec_l1Join.l0
  rw [if_neg (by simp)]
  rfl
 | cons x r =>
  have hx := hL x List.mem_cons_self
  have h0 : (⟨#[]⟩ : ByteArray) ++ x = x := by apply ext_data; simp [ByteArray.data_append]
  have := join_loop (x :: r) hL hn r.length 1 x (by simp; omega) (by omega) (by simp at hn; omega)
  have e : joinL (x :: r) = x.data.toList ++ Lib.joinTail [46] (((x :: r).drop 1).map (·.data.toList)) := by
   unfold joinL
   rw [List.map_cons, Lib.join_cons]
   rfl
  rw [e]
  refine Ev.congr (fun k => rfl) (Ev.step (fun k => ?_) this)
  show spec_l1Join.l0 (k + 1) (⟨#[]⟩ : ByteArray) (x :: r) ((x :: r).length : Int) 0 = _
  conv => lhs; unfold spec_l1Join.l0
  have hrd : rdOf ByteArray.empty (x :: r) 0 = x := rfl
  have hz : (⟨#[]⟩ : ByteArray).size = 0 := rfl
  rw [if_pos (by simp only [List.length_cons]; omega), if_pos (by omega), if_pos (by simp only [List.length_cons]; omega), if_neg (by omega), hrd, if_pos (by rw [hz]; omega), h0, show wrap64 ((0 : Int) + 1) = ((1 : Nat) : Int) by unfold wrap64; omega]
def smB (x : ByteArray) : ByteArray := mkB (x.data.toList.map lowB)
def InvL (L : List ByteArray) : Prop := ∀ x ∈ L, 1 ≤ x.size ∧ x.size ≤ 20 ∧ ∀ y ∈ x.data.toList, y ≠ 46
theorem low46 (b : UInt8) : lowB b = 46 ↔ b = 46 := by
 have : ∀ n : Fin 256, lowB (UInt8.ofFin n) = 46 ↔ UInt8.ofFin n = 46 := by decide +kernel
 exact this b.toFin
theorem joinL_low (L : List ByteArray) : joinL (L.map smB) = (joinL L).map lowB := by
 have ht : ∀ r : List ByteArray, Lib.joinTail [46] ((r.map smB).map (·.data.toList)) = (Lib.joinTail [46] (r.map (·.data.toList))).map lowB := by
  intro r
  induction r with
  | nil => rfl
  | cons y r ih =>
   rw [List.map_cons, List.map_cons, List.map_cons, tail_cons, tail_cons, ih]
   simp [smB, mkB_data, (low46 46).2 rfl]
 unfold joinL
 cases L with
 | nil => rfl
 | cons x r =>
  rw [List.map_cons, List.map_cons, List.map_cons, Lib.join_cons, Lib.join_cons, ht, List.map_append]
  simp [smB, mkB_data]
theorem split_join (L : List (List UInt8)) (hne : L ≠ []) (h : ∀ x ∈ L, ∀ y ∈ x, y ≠ 46) : splitL 46 (Lib.join L [46]) = L := by
 induction L with
 | nil => exact absurd rfl hne
 | cons x r ih =>
  rw [Lib.join_cons]
  cases r with
  | nil =>
   rw [show Lib.joinTail [46] ([] : List (List UInt8)) = [] from rfl, List.append_nil]
   exact splitL_none 46 x (h x List.mem_cons_self)
  | cons y r =>
   rw [tail_cons, splitL_hit 46 x _ (h x List.mem_cons_self), ← Lib.join_cons, ih (by simp) fun z hz => h z (List.mem_cons_of_mem _ hz)]
theorem fin_eq (L : List ByteArray) (hI : InvL L) : foldR (mkB (joinL L)) = nameR (L.map smB) := by
 unfold foldR nameR
 rw [mkB_data, mkB_size, joinL_low]
 have key : goodL ((joinL L).map lowB) = true → (joinL L).length ≤ 60 ∧ (decide ((L.map smB).length ≤ 8) && (L.map smB).all (fun x => isLabelL x.data.toList)) = true := by
  intro hg
  have h1 := good_size hg
  rw [List.length_map] at h1
  refine ⟨h1, ?_⟩
  unfold goodL at hg
  have hl : labelsL ((joinL L).map lowB) = (L.map smB).map (·.data.toList) := by
   cases L with
   | nil => rfl
   | cons x r =>
    have hx := hI x List.mem_cons_self
    have hne : (joinL (x :: r)).map lowB ≠ [] := by
     unfold joinL
     rw [List.map_cons, Lib.join_cons]
     intro e
     have e2 := congrArg List.length e
     rw [List.length_map, List.length_append, ← size_len, List.length_nil] at e2
     have := hx.1
     omega
    unfold labelsL
    rw [if_neg hne, ← joinL_low]
    unfold joinL
    refine split_join _ (by simp) ?_
    intro z hz y hy
    obtain ⟨q, hq, rfl⟩ := List.mem_map.1 hz
    obtain ⟨q2, hq2, rfl⟩ := List.mem_map.1 hq
    simp only [smB, mkB_data] at hy
    obtain ⟨b, hb, rfl⟩ := List.mem_map.1 hy
    rw [Ne, low46]
    exact (hI q2 hq2).2.2 b hb
  rw [hl] at hg
  simp only [Bool.and_eq_true, List.length_map, List.all_map] at hg ⊢
  exact hg.2
 by_cases hg : goodL ((joinL L).map lowB) = true
 · obtain ⟨h1, h2⟩ := key hg
   rw [if_pos h1, if_pos hg, if_pos h2]
 · rw [if_neg hg]
   split <;> split <;> rfl
section
variable (s : ByteArray) (hs : s.size ≤ 2000)
include hs
theorem doomed : ∀ (n a : Nat) (L : List ByteArray) (p : List Int) (le : Nat) (e : Int), le * 10 + (9 - L.length) ≤ n → L.length ≤ 9 → p.length ≤ L.length → (∃ x ∈ L, isLabelL x.data.toList = false) →
 ∃ r, Ev (fun k => impl_takeName.l0 k s (a : Int) L p (le : Int) e) r ∧ r.2.2.2 = false
 | n, a, L, p, le, e, hn, hL, hp, hx => by
  by_cases ho : s.size ≤ a ∨ 8 < L.length
  · exact ⟨failI, Ev.of (fun k => (impl_takeName.mono_l k).1 _ _ _ _ _ _) (impl_out s hs 0 a L p le e ho), rfl⟩
  · have h1 : a < s.size := by omega
    have h2 : L.length ≤ 8 := by omega
    by_cases v0 : byteAt s a = 0
    · refine ⟨_, Ev.of (fun k => (impl_takeName.mono_l k).1 _ _ _ _ _ _) (impl_end s hs 0 a L p le e h1 h2 v0), ?_⟩
      unfold nameR
      have hall : L.all (fun x => isLabelL x.data.toList) = false := by
       obtain ⟨x, hx1, hx2⟩ := hx
       rw [List.all_eq_false]
       exact ⟨x, hx1, by rw [hx2]; simp⟩
      rw [hall, Bool.and_false, if_neg (by simp)]
    · by_cases v1 : 192 ≤ byteAt s a
      · by_cases h3 : a + 1 < s.size
        · by_cases hle : ((ptrOf s a : Nat) : Int) ≥ (le : Int)
          · exact ⟨failI, Ev.of (fun k => (impl_takeName.mono_l k).1 _ _ _ _ _ _) ((impl_ptr s hs 0 a L p le e h1 h2 v1 h3).trans (if_pos hle)), rfl⟩
          · obtain ⟨r, g1, g2⟩ := doomed (n - 10) (ptrOf s a) L p (ptrOf s a) (endOf e (a + 2)) (by omega) hL hp hx
            exact ⟨r, Ev.step (fun k => rfl) (Ev.step (g := fun k => impl_takeName.l0 (k + 1) s (a : Int) L p (le : Int) e) (fun k => (impl_ptr s hs k a L p le e h1 h2 v1 h3).trans (if_neg hle)) g1), g2⟩
        · exact ⟨failI, Ev.of (fun k => (impl_takeName.mono_l k).1 _ _ _ _ _ _) (impl_ptr_out s hs 0 a L p le e h1 h2 v1 (by omega)), rfl⟩
      · by_cases h3 : 64 ≤ byteAt s a ∨ s.size < a + 1 + byteAt s a
        · exact ⟨failI, Ev.of (fun k => (impl_takeName.mono_l k).1 _ _ _ _ _ _) (impl_lab_out s hs 0 a L p le e h1 h2 (by omega) (by omega) h3), rfl⟩
        · obtain ⟨r, g1, g2⟩ := doomed (n - 1) (a + 1 + byteAt s a) (L ++ [mkB (((s.data.toList.drop (a + 1)).take (byteAt s a)).map lowB)]) (plc e p a) le e (by simp; omega) (by simp; omega) (by unfold plc; split <;> simp <;> omega) (by
           obtain ⟨x, hx1, hx2⟩ := hx
           exact ⟨x, List.mem_append_left _ hx1, hx2⟩)
          exact ⟨r, Ev.step (fun k => rfl) (Ev.step (fun k => rfl) (Ev.step (g := fun k => impl_takeName.l0 (k + 2) s (a : Int) L p (le : Int) e) (fun k => impl_lab s hs k a L p le e h1 h2 (by omega) (by omega) (by omega) (by omega)) g1)), g2⟩
 termination_by n => n
 decreasing_by all_goals omega
theorem sync : ∀ (n a : Nat) (L : List ByteArray) (p : List Int) (le : Nat) (e : Int) (a0 : Nat), le * 10 + (9 - L.length) ≤ n → L.length ≤ 9 → p.length ≤ L.length → InvL L → (e < 0 → a0 ≤ a) → (0 ≤ e → (a0 : Int) < e ∧ e ≤ (s.size : Int)) →
 ∃ r r', Ev (fun k => spec_l2Take.l0 k s (a : Int) L p (le : Int) e) r ∧ Ev (fun k => impl_takeName.l0 k s (a : Int) (L.map smB) p (le : Int) e) r' ∧ r.2.2.2 = r'.2.2.2 ∧
  (r.2.2.2 = true → r.1 = r'.1 ∧ r.2.1 = r'.2.2.1 ∧ r.2.2.1 = r'.2.1 ∧ (a0 : Int) < r.2.1 ∧ r.2.1 ≤ (s.size : Int) ∧ r.2.2.1.length ≤ 9)
 | n, a, L, p, le, e, a0, hn, hL, hp, hI, he1, he2 => by
  have hLs : (L.map smB).length = L.length := List.length_map ..
  by_cases ho : s.size ≤ a ∨ 8 < L.length
  · exact ⟨failS, failI, Ev.of (fun k => (spec_l2Take.mono_l k).1 _ _ _ _ _ _) (spec_out s hs 0 a L p le e ho), Ev.of (fun k => (impl_takeName.mono_l k).1 _ _ _ _ _ _) (impl_out s hs 0 a _ p le e (by omega)), rfl, fun h => by cases h⟩
  · have h1 : a < s.size := by omega
    have h2 : L.length ≤ 8 := by omega
    by_cases v0 : byteAt s a = 0
    · have hi := impl_end s hs 0 a (L.map smB) p le e h1 (by omega) v0
      refine ⟨((foldR (mkB (joinL L))).1, endOf e (a + 1), p, (foldR (mkB (joinL L))).2), _, ?_, Ev.of (fun k => (impl_takeName.mono_l k).1 _ _ _ _ _ _) hi, by rw [fin_eq L hI], fun _ => ⟨by rw [fin_eq L hI], rfl, rfl, ?_, ?_, by show p.length ≤ 9; omega⟩⟩
      · refine Ev.step (f := fun k => (spec_l1Join.f k L).bind fun t => (spec_FoldName.f t).bind fun bt119 => some (bt119.1, endOf e (a + 1), p, bt119.2)) (fun k => ?_) (Ev.bind (join_ev L (fun x hx => by have := (hI x hx).2.1; omega) (by omega)) (Ev.congr (f := fun _ => some ((foldR (mkB (joinL L))).1, endOf e (a + 1), p, (foldR (mkB (joinL L))).2)) (fun k => by unfold spec_FoldName.f; rfl) (Ev.now _)))
        show spec_l2Take.l0 (k + 1) s (a : Int) L p (le : Int) e = _
        conv => lhs; unfold spec_l2Take.l0
        rw [if_pos (by omega), if_neg (by omega), if_pos (by omega), if_pos (by omega), byteAt_bt, wN _ (by have := byteAt_lt s a; omega), v0, if_neg (by decide), if_pos (by rfl), w64n (by omega)]
        unfold endOf
        by_cases he : e < 0
        · rw [if_pos he, if_pos he]
        · rw [if_neg he, if_neg he]
      · show (a0 : Int) < endOf e (a + 1)
        unfold endOf
        split <;> omega
      · show endOf e (a + 1) ≤ (s.size : Int)
        unfold endOf
        split <;> omega
    · by_cases v1 : 192 ≤ byteAt s a
      · by_cases h3 : a + 1 < s.size
        · by_cases hle : ((ptrOf s a : Nat) : Int) ≥ (le : Int)
          · exact ⟨failS, failI, Ev.of (fun k => (spec_l2Take.mono_l k).1 _ _ _ _ _ _) ((spec_ptr s hs 0 a L p le e h1 h2 v1 h3).trans (if_pos hle)), Ev.of (fun k => (impl_takeName.mono_l k).1 _ _ _ _ _ _) ((impl_ptr s hs 0 a _ p le e h1 (by omega) v1 h3).trans (if_pos hle)), rfl, fun h => by cases h⟩
          · obtain ⟨r, r', g1, g2, g3⟩ := sync (n - 10) (ptrOf s a) L p (ptrOf s a) (endOf e (a + 2)) a0 (by omega) hL hp hI (by unfold endOf; split <;> omega) (by unfold endOf; split <;> omega)
            exact ⟨r, r', Ev.step (fun k => (spec_ptr s hs k a L p le e h1 h2 v1 h3).trans (if_neg hle)) g1, Ev.step (fun k => rfl) (Ev.step (g := fun k => impl_takeName.l0 (k + 1) s (a : Int) (L.map smB) p (le : Int) e) (fun k => (impl_ptr s hs k a _ p le e h1 (by omega) v1 h3).trans (if_neg hle)) g2), g3⟩
        · exact ⟨failS, failI, Ev.of (fun k => (spec_l2Take.mono_l k).1 _ _ _ _ _ _) (spec_ptr_out s hs 0 a L p le e h1 h2 v1 (by omega)), Ev.of (fun k => (impl_takeName.mono_l k).1 _ _ _ _ _ _) (impl_ptr_out s hs 0 a _ p le e h1 (by omega) v1 (by omega)), rfl, fun h => by cases h⟩
      · have hlb : ∀ (g : s.size ≥ a + 1 + byteAt s a), (rawL s a).length = byteAt s a := fun g => by unfold rawL; rw [List.length_take, List.length_drop, ← size_len]; omega
        by_cases h3 : 64 ≤ byteAt s a ∨ s.size < a + 1 + byteAt s a
        · exact ⟨failS, failI, Ev.of (fun k => (spec_l2Take.mono_l k).1 _ _ _ _ _ _) (spec_lab_out s hs 0 a L p le e h1 h2 (by omega) (by omega) (by omega)), Ev.of (fun k => (impl_takeName.mono_l k).1 _ _ _ _ _ _) (impl_lab_out s hs 0 a _ p le e h1 (by omega) (by omega) (by omega) h3), rfl, fun h => by cases h⟩
        · have hlen := hlb (by omega)
          have himpl : ∀ r, Ev (fun k => impl_takeName.l0 k s ((a + 1 + byteAt s a : Nat) : Int) (L.map smB ++ [mkB ((rawL s a).map lowB)]) (plc e p a) (le : Int) e) r → Ev (fun k => impl_takeName.l0 k s (a : Int) (L.map smB) p (le : Int) e) r := fun r g2 =>
           Ev.step (fun k => rfl) (Ev.step (fun k => rfl) (Ev.step (g := fun k => impl_takeName.l0 (k + 2) s (a : Int) (L.map smB) p (le : Int) e) (fun k => impl_lab s hs k a _ p le e h1 (by omega) (by omega) (by omega) (by omega) (by omega)) g2))
          have hpl : (plc e p a).length ≤ L.length + 1 := by
           unfold plc
           split
           · rw [List.length_append, List.length_singleton]; omega
           · omega
          have doom : isLabelL ((rawL s a).map lowB) = false → ∃ r, Ev (fun k => impl_takeName.l0 k s (a : Int) (L.map smB) p (le : Int) e) r ∧ r.2.2.2 = false := by
           intro hb
           obtain ⟨r, g1, g2⟩ := doomed s hs (n - 1) (a + 1 + byteAt s a) (L.map smB ++ [mkB ((rawL s a).map lowB)]) (plc e p a) le e (by simp; omega) (by simp; omega) (by simp; omega) ⟨_, List.mem_append_right _ List.mem_cons_self, by rw [mkB_data]; exact hb⟩
           exact ⟨r, himpl r g1, g2⟩
          by_cases h20 : 20 < byteAt s a
          · obtain ⟨r', g1, g2⟩ := doom (by
             rw [Bool.eq_false_iff]
             intro e1
             have := label_size e1
             rw [List.length_map] at this
             omega)
            exact ⟨failS, r', Ev.of (fun k => (spec_l2Take.mono_l k).1 _ _ _ _ _ _) (spec_lab_out s hs 0 a L p le e h1 h2 (by omega) (by omega) (.inl h20)), g1, by rw [g2]; rfl, fun h => by cases h⟩
          · rcases spec_lab s hs a L p le e h1 h2 (by omega) (by omega) (by omega) (by omega) with ⟨f1, y, hy, rfl⟩ | ⟨f1, f2⟩
            · obtain ⟨r', g1, g2⟩ := doom (by
               rw [Bool.eq_false_iff]
               intro e1
               unfold isLabelL at e1
               simp only [Bool.or_eq_true, Bool.and_eq_true, beq_iff_eq, List.all_eq_true] at e1
               have hm : (46 : UInt8) ∈ (rawL s a).map lowB := List.mem_map.2 ⟨46, hy, (low46 46).2 rfl⟩
               rcases e1 with e1 | e1
               · rw [e1] at hm
                 simp at hm
               · exact absurd (e1.2 46 hm) (by decide))
              exact ⟨failS, r', f1, g1, by rw [g2]; rfl, fun h => by cases h⟩
            · obtain ⟨r, r', g1, g2, g3⟩ := sync (n - 1) (a + 1 + byteAt s a) (L ++ [mkB (rawL s a)]) (plc e p a) le e a0 (by simp; omega) (by simp; omega) (by simp; omega) (by
               intro x hx
               rcases List.mem_append.1 hx with hx | hx
               · exact hI x hx
               · obtain rfl := List.mem_singleton.1 hx
                 rw [mkB_size, mkB_data]
                 exact ⟨by omega, by omega, f1⟩) (by omega) he2
              refine ⟨r, r', f2 r g1, himpl r' ?_, g3⟩
              rw [List.map_append] at g2
              have e1 : [mkB (rawL s a)].map smB = [mkB ((rawL s a).map lowB)] := by simp [smB, mkB_data]
              rw [e1] at g2
              exact g2
 termination_by n => n
 decreasing_by all_goals omega
theorem take_both (a : Nat) (ha : a ≤ s.size) : ∃ r r', Ev (fun k => spec_l2Take.f k s (a : Int)) r ∧ Ev (fun k => impl_takeName.f k s (a : Int)) r' ∧ r.2.2.2 = r'.2.2.2 ∧
 (r.2.2.2 = true → r.1 = r'.1 ∧ r.2.1 = r'.2.2.1 ∧ r.2.2.1 = r'.2.1 ∧ (a : Int) < r.2.1 ∧ r.2.1 ≤ (s.size : Int) ∧ r.2.2.1.length ≤ 9) :=
 sync s hs (a * 10 + 9) a [] [] a (-1) a (by simp) (by simp) (by simp) (fun x hx => by cases hx) (fun _ => Nat.le_refl _) (fun h => by omega)
end
end Go.Proofs.YtiegkjimpclmaaaGreatDoor.Pure
