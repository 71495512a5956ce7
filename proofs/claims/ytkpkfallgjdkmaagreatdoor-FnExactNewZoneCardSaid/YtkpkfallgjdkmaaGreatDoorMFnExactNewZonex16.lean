/- FnExactNewZone: part 17 of 29 of my texts for this claim, joined; the theorem stands in the last. Conditions: none beyond the statement's. -/
import Derived.Test.YtkpkfallgjdkmaaGreatDoorMFnExactNewZonex8
import Derived.Test.YtkpkfallgjdkmaaGreatDoorMFnExactNewZonex4
import Derived.Test.YtkpkfallgjdkmaaGreatDoorMFnExactNewZonex6
import Derived.Test.YtkpkfallgjdkmaaGreatDoorMFnExactNewZonex14
import Derived.Test.YtkpkfallgjdkmaaGreatDoorMFnExactNewZonex9
import Derived.Test.YtkpkfallgjdkmaaGreatDoorMFnExactNewZonex5
import Derived.Test.YtkpkfallgjdkmaaGreatDoorMFnExactNewZonex13
import Derived.Test.YtkpkfallgjdkmaaGreatDoorMFnExactNewZonex15
import Derived.Test.YtkpkfallgjdkmaaGreatDoorMFnExactNewZonex12
namespace Go.Proofs.YtkpkfallgjdkmaaGreatDoor.P
open Go.RowKit Go.Proofs.YtkpkfallgjdkmaaGreatDoorW.PrintWords Go.Proofs.YtkpkfallgjdkmaaGreatDoorW.PrintLast Go.Proofs.YtkpkfallgjdkmaaGreatDoorW.PrintMore
set_option linter.unusedVariables false
set_option linter.unusedSimpArgs false
def badD : ByteArray × Bool := ((⟨#[]⟩ : ByteArray), false)
def impl_DataBytes.l0 : Nat → List ByteArray → ByteArray → Int → Option (ByteArray × Bool)
 | 0, _, _, _ => none
 | k + 1, parts, out, i => if i < (parts.length : Int) then (if 0 ≤ i then ((impl_numberIn.f (rdOf ByteArray.empty parts i) 255).bind fun b => (if b.2 = true then (if (parts.length : Int) = 4 then ((impl_big.f k b.1 1).bind fun t => (if out.size + t.size ≤ 9223372036854775807 then impl_DataBytes.l0 k parts (out ++ t) (wrap64 (i + 1)) else none)) else some badD) else some badD)) else none) else some (out, true)
def dataTxt (k : Nat) (data : ByteArray) : Option (ByteArray × Bool) := if (data.size : Int) > 30 then some badD else (if (bytesOf data).any (fun c => decide (c < 32) || decide (c > 126)) = true then some badD else ((impl_big.f k (data.size : Int) 1).bind fun t => (if t.size + data.size ≤ 9223372036854775807 then some (t ++ data, true) else none)))
def dataMx (k : Nat) (data : ByteArray) : Option (ByteArray × Bool) := (strings_Cut.f data (⟨#[32]⟩ : ByteArray)).bind fun c => ((impl_numberIn.f c.1 65535).bind fun b => (if b.2 = true then ((impl_isTarget.f c.2.1).bind fun t => (if t = true then ((impl_big.f k b.1 2).bind fun g => ((impl_labelBytes.f k c.2.1).bind fun lb => (if g.size + lb.size ≤ 9223372036854775807 then (if g.size + lb.size + 1 ≤ 9223372036854775807 then some ((g ++ lb) ++ (⟨#[0]⟩ : ByteArray), true) else none) else none))) else some badD)) else some badD))
def dataNs (k : Nat) (data : ByteArray) : Option (ByteArray × Bool) := (impl_isTarget.f data).bind fun t => (if t = true then ((impl_labelBytes.f k data).bind fun lb => (if lb.size + 1 ≤ 9223372036854775807 then some (lb ++ (⟨#[0]⟩ : ByteArray), true) else none)) else some badD)
def dataSoa (k : Nat) (data : ByteArray) : Option (ByteArray × Bool) := (impl_numberIn.f data 4294967295).bind fun b => (if b.2 = true then ((impl_big.f k b.1 4).bind fun t => some (t, true)) else some badD)
def impl_DataBytes.f (k : Nat) (kind : Int) (data : ByteArray) : Option (ByteArray × Bool) :=
 if kind = 1 then ((strings_Split.f data (⟨#[46]⟩ : ByteArray)).bind fun parts => impl_DataBytes.l0 k parts (⟨#[]⟩ : ByteArray) 0)
 else (if kind = 2 ∨ kind = 5 then dataNs k data else (if kind = 6 then dataSoa k data else (if kind = 15 then dataMx k data else (if kind = 16 then dataTxt k data else some badD))))
set_option maxHeartbeats 4000000 in
theorem data_ns (k : Nat) (kind : Int) (hk : kind = 2 ∨ kind = 5) (a1 : ByteArray) (r1 : ByteArray) (r2 : Bool) (w : World) (h : dataNs k a1 = some (r1, r2)) (hv : Vars w) :
 Calls Tryz.prog 121 #[.int .i64 kind, .string a1] w fun e w' => e = .returned (.tuple #[.string r1, .bool r2]) ∧ Below w.heap.size w w' := by
 unfold dataNs at h
 obtain ⟨t, ht, h⟩ := Option.bind_eq_some_iff.mp h
 have tc := fun W => impl_isTarget.calls a1 t W ht
 have hk1 : (kind == 1) = false := by rcases hk with rfl | rfl <;> rfl
 have hk2 : kind = 2 → (kind == 2) = true := fun e => by rw [e]; rfl
 cases t with
 | false =>
  obtain ⟨rfl, rfl⟩ := Prod.mk.inj (Option.some.inj h)
  clear h ht
  rcases hk with rfl | rfl
  · go_enter Tryz.func121, Tryz.ntmps121
    go_wp2_with (go_at_call 144; refine (tc _).mono ?_; rintro e w1 ⟨rfl, hb⟩)
    go_ret2
    exact ⟨rfl, hb⟩
  · go_enter Tryz.func121, Tryz.ntmps121
    go_wp2_with (go_at_call 144; refine (tc _).mono ?_; rintro e w1 ⟨rfl, hb⟩)
    go_ret2
    exact ⟨rfl, hb⟩
 | true =>
  rw [if_pos rfl] at h
  obtain ⟨lb, hlb, h⟩ := Option.bind_eq_some_iff.mp h
  have lc := fun W => impl_labelBytes.calls k a1 lb W hlb
  by_cases hs : lb.size + 1 ≤ 9223372036854775807
  · rw [if_pos hs] at h
    obtain ⟨rfl, rfl⟩ := Prod.mk.inj (Option.some.inj h)
    have hsa := eq_true hs
    have hsc : (9223372036854775807 < lb.size + 1) = False := eq_false (by omega)
    clear h ht hlb
    rcases hk with rfl | rfl
    · go_enter Tryz.func121, Tryz.ntmps121
      go_wp2_with (first | (go_at_call 144; refine (tc _).mono ?_; rintro e w1 ⟨rfl, hb⟩) | (go_at_call 145; refine (lc _).mono ?_; rintro e w2 ⟨rfl, hb2⟩; have hb3 := below_then hb hb.size hb2))
      go_ret2
      exact ⟨rfl, hb3⟩
    · go_enter Tryz.func121, Tryz.ntmps121
      go_wp2_with (first | (go_at_call 144; refine (tc _).mono ?_; rintro e w1 ⟨rfl, hb⟩) | (go_at_call 145; refine (lc _).mono ?_; rintro e w2 ⟨rfl, hb2⟩; have hb3 := below_then hb hb.size hb2))
      go_ret2
      exact ⟨rfl, hb3⟩
  · rw [if_neg hs] at h; cases h
set_option maxHeartbeats 4000000 in
theorem data_soa (k : Nat) (a1 : ByteArray) (r1 : ByteArray) (r2 : Bool) (w : World) (h : dataSoa k a1 = some (r1, r2)) (hv : Vars w) :
 Calls Tryz.prog 121 #[.int .i64 6, .string a1] w fun e w' => e = .returned (.tuple #[.string r1, .bool r2]) ∧ Below w.heap.size w w' := by
 unfold dataSoa at h
 obtain ⟨⟨b1, b2⟩, hb0, h⟩ := Option.bind_eq_some_iff.mp h
 replace h : (if b2 = true then ((impl_big.f k b1 4).bind fun t => some (t, true)) else some badD) = some (r1, r2) := h
 have nc := fun W (hbW : Below w.heap.size w W) => impl_numberIn.calls a1 4294967295 b1 b2 W hb0 (Vars.below hv hbW)
 clear hv
 cases b2 with
 | false =>
  obtain ⟨rfl, rfl⟩ := Prod.mk.inj (Option.some.inj h)
  clear h
  go_enter Tryz.func121, Tryz.ntmps121
  go_wp2_with (go_at_call 142; refine (nc _ (Below.refl _ _)).mono ?_; rintro e w1 ⟨rfl, hb⟩)
  go_ret2
  exact ⟨rfl, hb⟩
 | true =>
  rw [if_pos rfl] at h
  obtain ⟨g, hg, h⟩ := Option.bind_eq_some_iff.mp h
  have gc := fun W => impl_big.calls k b1 4 g W hg
  obtain ⟨rfl, rfl⟩ := Prod.mk.inj (Option.some.inj h)
  clear h
  go_enter Tryz.func121, Tryz.ntmps121
  go_wp2_with (first | (go_at_call 142; refine (nc _ (Below.refl _ _)).mono ?_; rintro e w1 ⟨rfl, hb⟩) | (go_at_call 143; refine (gc _).mono ?_; rintro e w2 ⟨rfl, hb2⟩; have hb3 := below_then hb hb.size hb2))
  go_ret2
  exact ⟨rfl, hb3⟩
set_option maxHeartbeats 4000000 in
theorem data_mx (k : Nat) (a1 : ByteArray) (r1 : ByteArray) (r2 : Bool) (w : World) (h : dataMx k a1 = some (r1, r2)) (hv : Vars w) :
 Calls Tryz.prog 121 #[.int .i64 15, .string a1] w fun e w' => e = .returned (.tuple #[.string r1, .bool r2]) ∧ Below w.heap.size w w' := by
 unfold dataMx at h
 obtain ⟨⟨c1, c2, c3⟩, hc, h⟩ := Option.bind_eq_some_iff.mp h
 obtain ⟨⟨b1, b2⟩, hb0, h⟩ := Option.bind_eq_some_iff.mp h
 replace h : (if b2 = true then ((impl_isTarget.f c2).bind fun t => (if t = true then ((impl_big.f k b1 2).bind fun g => ((impl_labelBytes.f k c2).bind fun lb => (if g.size + lb.size ≤ 9223372036854775807 then (if g.size + lb.size + 1 ≤ 9223372036854775807 then some ((g ++ lb) ++ (⟨#[0]⟩ : ByteArray), true) else none) else none))) else some badD)) else some badD) = some (r1, r2) := h
 have cutc := fun W => strings_Cut.calls a1 (⟨#[32]⟩ : ByteArray) c1 c2 c3 W hc
 have nc := fun W (hbW : Below w.heap.size w W) => impl_numberIn.calls c1 65535 b1 b2 W hb0 (Vars.below hv hbW)
 clear hv
 cases b2 with
 | false =>
  obtain ⟨rfl, rfl⟩ := Prod.mk.inj (Option.some.inj h)
  clear h
  go_enter Tryz.func121, Tryz.ntmps121
  go_wp2_with (first | (go_at_call 146; refine (cutc _).mono ?_; rintro e w0 ⟨rfl, nd, rfl⟩; have hb0' := pw_below_drewN (Below.refl w.heap.size w) nd) | (go_at_call 142; refine (nc _ hb0').mono ?_; rintro e w1 ⟨rfl, hb⟩; have hb1 := below_then hb0' hb0'.size hb))
  go_ret2
  exact ⟨rfl, hb1⟩
 | true =>
  rw [if_pos rfl] at h
  obtain ⟨t, ht, h⟩ := Option.bind_eq_some_iff.mp h
  have tc := fun W => impl_isTarget.calls c2 t W ht
  cases t with
  | false =>
   obtain ⟨rfl, rfl⟩ := Prod.mk.inj (Option.some.inj h)
   clear h
   go_enter Tryz.func121, Tryz.ntmps121
   go_wp2_with (first | (go_at_call 146; refine (cutc _).mono ?_; rintro e w0 ⟨rfl, nd, rfl⟩; have hb0' := pw_below_drewN (Below.refl w.heap.size w) nd) | (go_at_call 142; refine (nc _ hb0').mono ?_; rintro e w1 ⟨rfl, hb⟩; have hb1 := below_then hb0' hb0'.size hb) | (go_at_call 144; refine (tc _).mono ?_; rintro e w2 ⟨rfl, hbt⟩; have hb2 := below_then hb1 hb1.size hbt))
   go_ret2
   exact ⟨rfl, hb2⟩
  | true =>
   rw [if_pos rfl] at h
   obtain ⟨g, hg, h⟩ := Option.bind_eq_some_iff.mp h
   obtain ⟨lb, hlb, h⟩ := Option.bind_eq_some_iff.mp h
   have gc := fun W => impl_big.calls k b1 2 g W hg
   have lc := fun W => impl_labelBytes.calls k c2 lb W hlb
   by_cases hs : g.size + lb.size ≤ 9223372036854775807
   · rw [if_pos hs] at h
     by_cases hs2 : g.size + lb.size + 1 ≤ 9223372036854775807
     · rw [if_pos hs2] at h
       obtain ⟨rfl, rfl⟩ := Prod.mk.inj (Option.some.inj h)
       have hsa := eq_true hs
       have hsc : (9223372036854775807 < g.size + lb.size) = False := eq_false (by omega)
       have hsa2 := eq_true hs2
       have hsc2 : (9223372036854775807 < g.size + lb.size + 1) = False := eq_false (by omega)
       clear h
       go_enter Tryz.func121, Tryz.ntmps121
       go_wp2_with (first | (go_at_call 146; refine (cutc _).mono ?_; rintro e w0 ⟨rfl, nd, rfl⟩; have hb0' := pw_below_drewN (Below.refl w.heap.size w) nd) | (go_at_call 142; refine (nc _ hb0').mono ?_; rintro e w1 ⟨rfl, hb⟩; have hb1 := below_then hb0' hb0'.size hb) | (go_at_call 144; refine (tc _).mono ?_; rintro e w2 ⟨rfl, hbt⟩; have hb2 := below_then hb1 hb1.size hbt) | (go_at_call 143; refine (gc _).mono ?_; rintro e w3 ⟨rfl, hbg⟩; have hb3 := below_then hb2 hb2.size hbg) | (go_at_call 145; refine (lc _).mono ?_; rintro e w4 ⟨rfl, hbl⟩; have hb4 := below_then hb3 hb3.size hbl))
       go_ret2
       exact ⟨rfl, hb4⟩
     · rw [if_neg hs2] at h; cases h
   · rw [if_neg hs] at h; cases h
set_option maxHeartbeats 4000000 in
theorem data_other (kind : Int) (h1 : kind ≠ 1) (h2 : kind ≠ 2) (h5 : kind ≠ 5) (h6 : kind ≠ 6) (h15 : kind ≠ 15) (h16 : kind ≠ 16) (a1 : ByteArray) (w : World) :
 Calls Tryz.prog 121 #[.int .i64 kind, .string a1] w fun e w' => e = .returned (.tuple #[.string (⟨#[]⟩ : ByteArray), .bool false]) ∧ Below w.heap.size w w' := by
 have g1 : (kind == 1) = false := beq_eq_false_iff_ne.mpr h1
 have g2 : (kind == 2) = false := beq_eq_false_iff_ne.mpr h2
 have g5 : (kind == 5) = false := beq_eq_false_iff_ne.mpr h5
 have g6 : (kind == 6) = false := beq_eq_false_iff_ne.mpr h6
 have g15 : (kind == 15) = false := beq_eq_false_iff_ne.mpr h15
 have g16 : (kind == 16) = false := beq_eq_false_iff_ne.mpr h16
 clear h1 h2 h5 h6 h15 h16
 go_enter Tryz.func121, Tryz.ntmps121
 go_wp2
 go_ret2
 exact ⟨rfl, Below.refl _ _⟩
theorem data_pred (xs : List Int) (W : World) : PredB 148 #[] (.int .u8) (fun c => decide (c < 32) || decide (c > 126)) xs W := by
 intro x hx W' hW
 have e : impl_DataBytes_1.f x = some (decide (x < 32) || decide (x > 126)) := by
  unfold impl_DataBytes_1.f
  by_cases h : x < 32
  · rw [if_pos h, decide_eq_true h]; rfl
  · rw [if_neg h, decide_eq_false h]; rfl
 refine (impl_DataBytes_1.calls x _ W' e).mono ?_
 rintro e w' ⟨he, nd, rfl⟩
 exact ⟨he, pw_below_drewN (Below.refl _ _) nd⟩
theorem bytes_len (s : ByteArray) : (bytesOf s).length = s.size := by
 unfold bytesOf
 simp only [List.length_map]
 exact (size_len s).symm
set_option maxRecDepth 100000 in
set_option maxHeartbeats 4000000 in
theorem data_txt (k : Nat) (a1 : ByteArray) (r1 : ByteArray) (r2 : Bool) (w : World) (h : dataTxt k a1 = some (r1, r2)) :
 Calls Tryz.prog 121 #[.int .i64 16, .string a1] w fun e w' => e = .returned (.tuple #[.string r1, .bool r2]) ∧ Below w.heap.size w w' := by
 unfold dataTxt at h
 by_cases h30 : (a1.size : Int) > 30
 · rw [if_pos h30] at h
   obtain ⟨rfl, rfl⟩ := Prod.mk.inj (Option.some.inj h)
   have e1 : decide (30 < a1.size) = true := decide_eq_true (by omega)
   have e2 : decide ((30 : Int) < (a1.size : Int)) = true := decide_eq_true (by omega)
   clear h
   go_enter Tryz.func121, Tryz.ntmps121
   go_wp2
   go_ret2
   exact ⟨rfl, Below.refl _ _⟩
 · rw [if_neg h30] at h
   have e1 : decide (30 < a1.size) = false := decide_eq_false (by omega)
   have e2 : decide ((30 : Int) < (a1.size : Int)) = false := decide_eq_false (by omega)
   have eg : ∀ args w, (callFunc 148 args).run Tryz.prog w = .ok (.enter 148 args) w := enters_of Tryz.func148 (by kernel_rfl) rfl
   have cc0 := fun W c => contains_byte (some ⟨W.heap.size, 0, none⟩) c (bytesOf a1) 148 #[] (fun c => decide (c < 32) || decide (c > 126)) (Lib.bytesWorld W 5 a1) (by
    have hr := bytes_reads W 5 a1 (by omega)
    have := Kd.C_of_reads (d := (0 : Int)) (h1 := fun _ => rfl) hr
    rw [show (bytesOf a1).length = a1.size by rw [bytes_len]]
    exact this) eg (data_pred _ _)
   have hlen : (bytesOf a1).length = a1.size := by rw [bytes_len]
   rw [hlen] at cc0
   generalize hany : (bytesOf a1).any (fun c => decide (c < 32) || decide (c > 126)) = b at h cc0
   have e30 : (30 < a1.size) = False := eq_false (by omega)
   have kb := fun W => print_bytes (P := Tryz.prog) 9 89 5 Tryz.underlying9 Tryz.underlying89 Tryz.underlying5 a1 W
   cases b with
   | true =>
    rw [if_pos rfl] at h
    obtain ⟨rfl, rfl⟩ := Prod.mk.inj (Option.some.inj h)
    clear h h30 hlen hany
    go_enter Tryz.func121, Tryz.ntmps121
    go_wp2_with (go_at_call 147; refine (cc0 _ _).mono ?_; rintro e w1 ⟨rfl, hb⟩; have hb1 := below_then (Lib.bytesWorld_below w 5 a1) (Lib.bytesWorld_below w 5 a1).size hb)
    go_ret2
    exact ⟨rfl, hb1⟩
   | false =>
    rw [if_neg (by simp)] at h
    obtain ⟨g, hg, h⟩ := Option.bind_eq_some_iff.mp h
    have gc := fun W => impl_big.calls k (a1.size : Int) 1 g W hg
    by_cases hs : g.size + a1.size ≤ 9223372036854775807
    · rw [if_pos hs] at h
      obtain ⟨rfl, rfl⟩ := Prod.mk.inj (Option.some.inj h)
      have hsa := eq_true hs
      have hsc : (9223372036854775807 < g.size + a1.size) = False := eq_false (by omega)
      clear h h30 hlen hany
      go_enter Tryz.func121, Tryz.ntmps121
      go_wp2_with (first | (go_at_call 147; refine (cc0 _ _).mono ?_; rintro e w1 ⟨rfl, hb⟩; have hb1 := below_then (Lib.bytesWorld_below w 5 a1) (Lib.bytesWorld_below w 5 a1).size hb) | (go_at_call 143; refine (gc _).mono ?_; rintro e w2 ⟨rfl, hbg⟩; have hb2 := below_then hb1 hb1.size hbg))
      go_ret2
      exact ⟨rfl, hb2⟩
    · rw [if_neg hs] at h; cases h
set_option maxRecDepth 100000 in
set_option maxHeartbeats 4000000 in
theorem data_a (k : Nat) (a1 : ByteArray) (parts : List ByteArray) (r1 : ByteArray) (r2 : Bool) (w : World) (hp : strings_Split.f a1 (⟨#[46]⟩ : ByteArray) = some parts) (h : impl_DataBytes.l0 k parts (⟨#[]⟩ : ByteArray) 0 = some (r1, r2)) (hv : Vars w) :
 Calls Tryz.prog 121 #[.int .i64 1, .string a1] w fun e w' => e = .returned (.tuple #[.string r1, .bool r2]) ∧ Below w.heap.size w w' := by
 have sc := fun W => strings_Split.calls a1 (⟨#[46]⟩ : ByteArray) parts W hp
 have HV := Aside0.mk hv
 have H' := Aside0.mk h
 clear h hv hp
 go_enter Tryz.func121, Tryz.ntmps121
 go_wp2_with (go_at_call 117; refine (sc _).mono ?_; rintro e w1 ⟨v, rfl, hR, hbw⟩; have HO := Aside0.mk hR; have HB1 := Aside0.mk hbw; clear hR hbw; obtain ⟨A, c, rfl⟩ := Kd.R_slice HO.out)
 go_loopg [6, 26] k (fun kq v6 v26 wr => ∃ (out : ByteArray) (x : Int), v6 = .string out ∧ v26 = .int .i64 x ∧ Aside0 (impl_DataBytes.l0 kq parts out x = some (r1, r2)) ∧ Aside0 (kq ≤ k) ∧ Aside0 (Kd.C Kd.string wr A parts.length parts) ∧ Aside0 (Below w.heap.size w wr))
 case atStart => exact ⟨(⟨#[]⟩ : ByteArray), 0, rfl, rfl, H', ⟨Nat.le_refl _⟩, ⟨(Kd.R_reads' HO.out).2.2⟩, HB1⟩
 case round =>
  obtain ⟨out, x, rfl, rfl, HA, HK1, HC, BW⟩ := hrel
  cases gk with
  | zero => exact absurd HA.out (by simp [impl_DataBytes.l0])
  | succ k1 =>
   have H := HA.out
   clear HA H'
   simp only [impl_DataBytes.l0] at H
   by_cases c1 : x < (parts.length : Int)
   · rw [if_pos c1] at H
     by_cases c2 : 0 ≤ x
     · rw [if_pos c2] at H
       obtain ⟨⟨b1, b2⟩, hb0, H⟩ := Option.bind_eq_some_iff.mp H
       replace H : (if b2 = true then (if (parts.length : Int) = 4 then ((impl_big.f k1 b1 1).bind fun t => (if out.size + t.size ≤ 9223372036854775807 then impl_DataBytes.l0 k1 parts (out ++ t) (wrap64 (x + 1)) else none)) else some badD) else some badD) = some (r1, r2) := H
       have nc := fun W (hbW : Below w.heap.size w W) => impl_numberIn.calls (rdOf ByteArray.empty parts x) 255 b1 b2 W hb0 (Vars.below HV.out hbW)
       have c1b : decide (x < (parts.length : Int)) = true := decide_eq_true c1
       obtain ⟨ad, e0, hx⟩ := Kd.at_string HC.out x c2 c1
       cases e0
       have c1z := eq_true c1
       have c2z := eq_true c2
       generalize rdOf ByteArray.empty parts x = pv at hb0 nc hx
       clear hb0
       have hbw := BW.out
       cases b2 with
       | false =>
        obtain ⟨rfl, rfl⟩ := Prod.mk.inj (Option.some.inj H)
        clear H
        go_wp2_with (go_at_call 142; refine (nc _ hbw).mono ?_; rintro e w2 ⟨rfl, hb2⟩)
        go_ret2
        exact ⟨rfl, below_then BW.out BW.out.size hb2⟩
       | true =>
        rw [if_pos rfl] at H
        by_cases c4 : (parts.length : Int) = 4
        · rw [if_pos c4] at H
          obtain ⟨g, hg, H⟩ := Option.bind_eq_some_iff.mp H
          have gc := fun W => impl_big.calls k1 b1 1 g W hg
          have c4a : ((parts.length : Int) == 4) = true := by rw [c4]; rfl
          have c4b : (parts.length == 4) = true := by rw [show parts.length = 4 by omega]; rfl
          have c4c : ((parts.length : Int) != 4) = false := by rw [c4]; rfl
          by_cases hs : out.size + g.size ≤ 9223372036854775807
          · rw [if_pos hs] at H
            have hsa := eq_true hs
            have hsc : (9223372036854775807 < out.size + g.size) = False := eq_false (by omega)
            have HN := Aside0.mk H
            clear H hg c4 hs
            go_wp2_with (first | (go_at_call 142; refine (nc _ hbw).mono ?_; rintro e w2 ⟨rfl, hb2⟩) | (go_at_call 143; refine (gc _).mono ?_; rintro e w3 ⟨rfl, hb3⟩; have hb4 := below_then hb2 hb2.size hb3))
            go_roundg k1
            case measure => have := HK1.out; omega
            case rel => exact ⟨out ++ g, wrap64 (x + 1), rfl, rfl, HN, ⟨by have := HK1.out; omega⟩, ⟨Kd.C_below HC.out hb4⟩, ⟨below_then BW.out BW.out.size hb4⟩⟩
          · rw [if_neg hs] at H; cases H
        · rw [if_neg c4] at H
          obtain ⟨rfl, rfl⟩ := Prod.mk.inj (Option.some.inj H)
          have c4a : ((parts.length : Int) == 4) = false := beq_eq_false_iff_ne.mpr c4
          have c4b : (parts.length == 4) = false := beq_eq_false_iff_ne.mpr (by omega)
          have c4c : ((parts.length : Int) != 4) = true := by rw [bne, c4a]; rfl
          clear H c4
          go_wp2_with (go_at_call 142; refine (nc _ hbw).mono ?_; rintro e w2 ⟨rfl, hb2⟩)
          go_ret2
          exact ⟨rfl, below_then BW.out BW.out.size hb2⟩
     · rw [if_neg c2] at H; cases H
   · rw [if_neg c1] at H
     have c1b : decide (x < (parts.length : Int)) = false := decide_eq_false c1
     obtain ⟨rfl, rfl⟩ := Prod.mk.inj (Option.some.inj H)
     clear H
     go_wp2
     go_ret2
     exact ⟨rfl, BW.out⟩
theorem impl_DataBytes.calls (k : Nat) (a0 : Int) (a1 : ByteArray) (r1 : ByteArray) (r2 : Bool) (w : World) (h : impl_DataBytes.f k a0 a1 = some (r1, r2))
 (hv : Vars w := by first | assumption | (refine Vars.below (Aside0.out (by assumption)) ?_; repeat (first | (with_reducible first | exact Below.refl _ _ | exact Aside0.out (by assumption) | apply below_alloc | apply pw_below_drewN | apply below_drew1) | exact Aside0.out (by assumption)))) :
 Calls Tryz.prog 121 #[.int .i64 a0, .string a1] w fun e w' => e = .returned (.tuple #[.string r1, .bool r2]) ∧ Below w.heap.size w w' := by
 unfold impl_DataBytes.f at h
 by_cases c1 : a0 = 1
 · rw [if_pos c1] at h
   subst c1
   obtain ⟨parts, hp, h⟩ := Option.bind_eq_some_iff.mp h
   exact data_a k a1 parts r1 r2 w hp h hv
 · rw [if_neg c1] at h
   by_cases c2 : a0 = 2 ∨ a0 = 5
   · rw [if_pos c2] at h
     exact data_ns k a0 c2 a1 r1 r2 w h hv
   · rw [if_neg c2] at h
     by_cases c6 : a0 = 6
     · rw [if_pos c6] at h
       subst c6
       exact data_soa k a1 r1 r2 w h hv
     · rw [if_neg c6] at h
       by_cases c15 : a0 = 15
       · rw [if_pos c15] at h
         subst c15
         exact data_mx k a1 r1 r2 w h hv
       · rw [if_neg c15] at h
         by_cases c16 : a0 = 16
         · rw [if_pos c16] at h
           subst c16
           exact data_txt k a1 r1 r2 w h
         · rw [if_neg c16] at h
           obtain ⟨rfl, rfl⟩ := Prod.mk.inj (Option.some.inj h)
           exact data_other a0 c1 (fun e => c2 (.inl e)) (fun e => c2 (.inr e)) c6 c15 c16 a1 w
end Go.Proofs.YtkpkfallgjdkmaaGreatDoor.P
namespace Go.Proofs.YtkpkfallgjdkmaaGreatDoor.P
open Go.RowKit Go.Proofs.YtkpkfallgjdkmaaGreatDoorW.PrintWords Go.Proofs.YtkpkfallgjdkmaaGreatDoorW.PrintLast Go.Proofs.YtkpkfallgjdkmaaGreatDoorW.PrintMore
attribute [local go_sem] max2_int min2_int max_two min_two max_three min_three max_four min_four
set_option linter.unusedVariables false
set_option linter.unusedSimpArgs false
def spec_GoodRecord.f (k : Nat) (a0_0 : ByteArray) (a0_1 : Int) (a0_2 : Int) (a0_3 : ByteArray) : Option (Bool) := (spec_l3Bytes.f k a0_1 a0_3).bind fun bt169 => (if bt169.2 = true then ((spec_GoodName.f k a0_0).bind fun t171 => (if t171 = true then ((spec_l1In.f a0_2 0 100000).bind fun t172 => (some t172)) else (some false))) else (some false))
end Go.Proofs.YtkpkfallgjdkmaaGreatDoor.P
namespace Go.Proofs.YtkpkfallgjdkmaaGreatDoor.P
open Go.RowKit Go.Proofs.YtkpkfallgjdkmaaGreatDoorW.PrintWords Go.Proofs.YtkpkfallgjdkmaaGreatDoorW.PrintLast Go.Proofs.YtkpkfallgjdkmaaGreatDoorW.PrintMore
attribute [local go_sem] max2_int min2_int max_two min_two max_three min_three max_four min_four
set_option linter.unusedVariables false
set_option linter.unusedSimpArgs false
attribute [local go_sem] gtr_less
def spec_l3Compare.f (k : Nat) (a0_0 : ByteArray) (a0_1 : Int) (a0_2 : Int) (a0_3 : ByteArray) (a1_0 : ByteArray) (a1_1 : Int) (a1_2 : Int) (a1_3 : ByteArray) : Option (Int) := (spec_l1Compare.f k a0_0 a1_0).bind fun t677 => (if t677 = 0 then ((spec_l3Bytes.f k a0_1 a0_3).bind fun bt678 => ((spec_l3Bytes.f k a1_1 a1_3).bind fun bt680 => (if a0_1 = a1_1 then (if bt678.1.toList = bt680.1.toList then (if a0_2 = a1_2 then (some 0) else ((spec_l3Less.f (decide (a0_2 < a1_2))).bind fun t682 => (some t682))) else ((spec_l3Less.f (Op.bytesLess bt678.1.toList bt680.1.toList)).bind fun t683 => (some t683))) else ((spec_l3Less.f (decide (a0_1 < a1_1))).bind fun t684 => (some t684))))) else (some t677))
end Go.Proofs.YtkpkfallgjdkmaaGreatDoor.P
namespace Go.Proofs.YtkpkfallgjdkmaaGreatDoor.Pure
open Go.RowKit Go.Proofs.YtkpkfallgjdkmaaGreatDoor.P Go.Proofs.YtkpkfallgjdkmaaGreatDoorW.PrintWords Go.Proofs.YtkpkfallgjdkmaaGreatDoorW.PrintLast
set_option linter.unusedVariables false
set_option linter.unusedSimpArgs false
/-- Is a text another one, or below it? -/
def belowL (a b : List UInt8) : Bool := b == [] || (a == b || (decide (b.length < a.length) && a.drop (a.length - b.length - 1) == 46 :: b))
theorem specBelow_eq (a b : ByteArray) (ha : a.size < 4611686018427387904) (hb : b.size < 4611686018427387904) : spec_l1Below.f a b = some (belowL a.data.toList b.data.toList) := by
 unfold spec_l1Below.f belowL
 rw [Lib.toList_data, Lib.toList_data]
 by_cases h1 : b.data.toList = []
 · rw [if_pos h1, h1]; rfl
 · rw [if_neg h1, show (b.data.toList == []) = false from beq_eq_false_iff_ne.mpr h1, Bool.false_or]
   by_cases h2 : a.data.toList = b.data.toList
   · rw [if_pos h2, h2]; simp
   · rw [if_neg h2, show (a.data.toList == b.data.toList) = false from beq_eq_false_iff_ne.mpr h2, Bool.false_or, ← size_len, ← size_len]
     have hw : wrap64 ((a.size : Int) - (b.size : Int)) = (a.size : Int) - (b.size : Int) := by unfold wrap64; omega
     rw [hw]
     by_cases h3 : (a.size : Int) - (b.size : Int) > 0
     · have h3' : b.size < a.size := by omega
       have hw2 : wrap64 ((a.size : Int) - (b.size : Int) - 1) = ((a.size - b.size - 1 : Nat) : Int) := by unfold wrap64; omega
       have hi : a.size - b.size - 1 < a.data.toList.length := by rw [← size_len]; omega
       rw [if_pos h3, if_pos (by omega), if_pos (by omega), hw2, decide_eq_true h3', Bool.true_and]
       rw [show ((a.size : Int) - (b.size : Int)).toNat = a.size - b.size by omega, Lib.toList_data, ext_end, mkB_data]
       rw [List.drop_eq_getElem_cons hi, show a.size - b.size - 1 + 1 = a.size - b.size by omega]
       by_cases h4 : List.drop (a.size - b.size) a.data.toList = b.data.toList
       · rw [if_pos h4, if_pos (by omega), if_pos (by omega), bt_list a _ hi, h4]
         generalize a.data.toList[a.size - b.size - 1] = x
         have hx : ((x.toNat : Int) == 46) = (x == 46) := by
          rw [Bool.eq_iff_iff, beq_iff_eq, beq_iff_eq, ← UInt8.toNat_inj]
          exact ⟨fun e => Int.ofNat.inj e, fun e => by rw [e]; rfl⟩
         rw [hx]
         simp
       · rw [if_neg h4, eq_comm]
         congr 1
         rw [beq_eq_false_iff_ne]
         intro e
         exact h4 (List.cons.inj e).2
     · rw [if_neg h3, decide_eq_false (by omega)]
       rfl
theorem implBelow_eq (a b : ByteArray) (ha : a.size < 4611686018427387904) (hb : b.size < 4611686018427387904) : impl_isBelow.f a b = some (belowL a.data.toList b.data.toList) := by
 unfold impl_isBelow.f belowL
 rw [Lib.toList_data, Lib.toList_data]
 by_cases h1 : b.data.toList = []
 · rw [h1]
   by_cases h2 : a.data.toList = []
   · rw [if_pos h2]; rfl
   · rw [if_neg h2, if_pos rfl]; rfl
 · rw [show (b.data.toList == []) = false from beq_eq_false_iff_ne.mpr h1, Bool.false_or]
   by_cases h2 : a.data.toList = b.data.toList
   · rw [if_pos h2, h2]; simp
   · rw [if_neg h2, if_neg h1, if_pos (by omega), show (a.data.toList == b.data.toList) = false from beq_eq_false_iff_ne.mpr h2, Bool.false_or, ← size_len, ← size_len]
     unfold strings_HasSuffix.f stringslite_HasSuffix.f
     have hsz : ((⟨#[46]⟩ : ByteArray) ++ b).size = b.size + 1 := by rw [ByteArray.size_append]; show 1 + b.size = _; omega
     have hdt : ((⟨#[46]⟩ : ByteArray) ++ b).data.toList = 46 :: b.data.toList := by rw [ByteArray.data_append, Array.toList_append]; rfl
     rw [hsz]
     by_cases h3 : b.size < a.size
     · have hw : wrap64 ((a.size : Int) - ((b.size + 1 : Nat) : Int)) = ((a.size - b.size - 1 : Nat) : Int) := by unfold wrap64; omega
       rw [if_pos (by omega), hw, if_pos (by omega), if_pos (by omega), decide_eq_true h3, Bool.true_and, Int.toNat_natCast, ext_end, Lib.toList_data, Lib.toList_data, mkB_data, hdt]
       rfl
     · rw [if_neg (by omega), decide_eq_false h3]
       rfl
/-- What is behind the first dot. -/
def parL : List UInt8 → List UInt8
 | [] => []
 | x :: xs => if x = 46 then xs else parL xs
theorem parL_len (l : List UInt8) : (parL l).length ≤ l.length - 1 := by
 induction l with
 | nil => simp [parL]
 | cons x xs ih =>
  unfold parL
  split
  · simp
  · simp at ih ⊢; omega
theorem parL_hit (p r : List UInt8) (h : ∀ x ∈ p, x ≠ 46) : parL (p ++ 46 :: r) = r := by
 induction p with
 | nil => simp [parL]
 | cons x xs ih => rw [List.cons_append, parL, if_neg (h x List.mem_cons_self), ih fun y hy => h y (List.mem_cons_of_mem _ hy)]
theorem parL_none (l : List UInt8) (h : ∀ x ∈ l, x ≠ 46) : parL l = [] := by
 induction l with
 | nil => rfl
 | cons x xs ih => rw [parL, if_neg (h x List.mem_cons_self), ih fun y hy => h y (List.mem_cons_of_mem _ hy)]
theorem parent_loop (s : ByteArray) (hs : s.size < 1099511627776) : ∀ (m i : Nat), i + m = s.size →
 spec_l1Parent.l0 (m + 1) s (i : Int) = some (mkB (parL (s.data.toList.drop i)))
 | 0, i, him => by
  unfold spec_l1Parent.l0
  rw [if_neg (by omega), List.drop_of_length_le (by rw [← size_len]; omega)]
  rfl
 | m + 1, i, him => by
  have hi : i < s.data.toList.length := by rw [← size_len]; omega
  unfold spec_l1Parent.l0
  rw [if_pos (by omega), if_pos (by omega), w64n (by omega), bt_list s i hi, List.drop_eq_getElem_cons hi]
  unfold parL
  by_cases h : s.data.toList[i] = 46
  · rw [if_pos (by rw [h]; rfl), if_pos h, if_pos (by omega), if_pos (by omega), Int.toNat_natCast, ext_end]
  · rw [if_neg (by intro e; apply h; apply UInt8.toNat_inj.1; simpa using Int.ofNat.inj e), if_neg h, parent_loop s hs m (i + 1) (by omega)]
theorem specParent_ev (s : ByteArray) (hs : s.size < 1099511627776) : Ev (fun k => spec_l1Parent.f k s) (mkB (parL s.data.toList)) := by
 refine Ev.of (fun k => spec_l1Parent.mono _ _) (k := s.size + 1) ?_
 unfold spec_l1Parent.f
 have := parent_loop s hs s.size 0 (by omega)
 simpa using this
end Go.Proofs.YtkpkfallgjdkmaaGreatDoor.Pure
