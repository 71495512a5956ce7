/- FnExactSetIn: part 19 of 31 of my texts for this claim, joined; the theorem stands in the last. Conditions: none beyond the statement's. -/
import Derived.Test.YtkpkfallgjdkmaaGreatDoorMFnExactSetInx9
import Derived.Test.YtkpkfallgjdkmaaGreatDoorMFnExactSetInx3
import Derived.Test.YtkpkfallgjdkmaaGreatDoorMFnExactSetInx6
import Derived.Test.YtkpkfallgjdkmaaGreatDoorMFnExactSetInx16
import Derived.Test.YtkpkfallgjdkmaaGreatDoorMFnExactSetInx7
import Derived.Test.YtkpkfallgjdkmaaGreatDoorMFnExactSetInx17
namespace Go.Proofs.YtkpkfallgjdkmaaGreatDoor.P
open Go.RowKit Go.Proofs.YtkpkfallgjdkmaaGreatDoorW.PrintWords Go.Proofs.YtkpkfallgjdkmaaGreatDoorW.PrintLast Go.Proofs.YtkpkfallgjdkmaaGreatDoorW.PrintMore
set_option linter.unusedVariables false
set_option linter.unusedSimpArgs false
def badD : ByteArray × Bool := ((⟨#[]⟩ : ByteArray), false)
def impl_DataBytes.l0 : Nat → List ByteArray → ByteArray → Int → Option (ByteArray × Bool)
 | 0, _, _, _ => none
 | k + 1, parts, out, i => if i < (parts.length : Int) then (if 0 ≤ i then ((impl_numberIn.f (rdOf ByteArray.empty parts i) 255).bind fun b => (if b.2 = true then (if (parts.length : Int) = 4 then ((impl_big.f k b.1 1).bind fun t => (if out.size + t.size ≤ 9223372036854775807 then impl_DataBytes.l0 k parts (out ++ t) (wrap64 (i + 1)) else none)) else some badD) else some badD)) else none) else some (out, true)
def dataTxt (k : Nat) (data : ByteArray) : Option (ByteArray × Bool) := if (data.size : Int) > 30 then some badD else (if (bytesOf data).any (fun c => decide (c < 32) || decide (c > 126)) = true then some badD else ((impl_big.f k (data.size : Int) 1).bind fun t => (if t.size + data.size ≤ 9223372036854775807 then some (t ++ data, true) else none)))
def dataMx (k : Nat) (data : ByteArray) : Option (ByteArray × Bool) := (strings_Cut.f data (⟨#[32]⟩ : ByteArray)).bind fun c => ((impl_numberIn.f c.1 65535).bind fun b => (if b.2 = true then ((impl_isTarget.f c.2.1).bind fun t => (if t = true then ((impl_big.f k b.1 2).bind fun g => ((impl_labelBytes.f k c.2.1).bind fun lb => (if g.size + lb.size ≤ 9223372036854775807 then (if g.size + lb.size + 1 ≤ 9223372036854775807 then some ((g ++ lb) ++ (⟨#[0]⟩ : ByteArray), true) else none) else none))) else some badD)) else some badD))
def dataNs (k : Nat) (data : ByteArray) : Option (ByteArray × Bool) := (impl_isTarget.f data).bind fun t => (if t = true then ((impl_labelBytes.f k data).bind fun lb => (if lb.size + 1 ≤ 9223372036854775807 then some (lb ++ (⟨#[0]⟩ : ByteArray), true) else none)) else some badD)
def dataSoa (k : Nat) (data : ByteArray) : Option (ByteArray × Bool) := (impl_numberIn.f data 4294967295).bind fun b => (if b.2 = true then ((impl_big.f k b.1 4).bind fun t => some (t, true)) else some badD)
def impl_DataBytes.f (k : Nat) (kind : Int) (data : ByteArray) : Option (ByteArray × Bool) :=
 if kind = 1 then ((strings_Split.f data (⟨#[46]⟩ : ByteArray)).bind fun parts => impl_DataBytes.l0 k parts (⟨#[]⟩ : ByteArray) 0)
 else (if kind = 2 ∨ kind = 5 then dataNs k data else (if kind = 6 then dataSoa k data else (if kind = 15 then dataMx k data else (if kind = 16 then dataTxt k data else some badD))))
set_option maxHeartbeats 4000000 in
theorem data_ns (k : Nat) (kind : Int) (hk : kind = 2 ∨ kind = 5) (a1 : ByteArray) (r1 : ByteArray) (r2 : Bool) (w : World) (h : dataNs k a1 = some (r1, r2)) (hv : Vars w) :
 Calls Tryz.prog 121 #[.int .i64 kind, .string a1] w fun e w' => e = .returned (.tuple #[.string r1, .bool r2]) ∧ Below w.heap.size w w' := by
 unfold dataNs at h
 obtain ⟨t, ht, h⟩ := Option.bind_eq_some_iff.mp h
 have tc := fun W => impl_isTarget.calls a1 t W ht
 have hk1 : (kind == 1) = false := by rcases hk with rfl | rfl <;> rfl
 have hk2 : kind = 2 → (kind == 2) = true := fun e => by rw [e]; rfl
 cases t with
 | false =>
  obtain ⟨rfl, rfl⟩ := Prod.mk.inj (Option.some.inj h)
  clear h ht
  rcases hk with rfl | rfl
  · go_enter Tryz.func121, Tryz.ntmps121
    go_wp2_with (go_at_call 144; refine (tc _).mono ?_; rintro e w1 ⟨rfl, hb⟩)
    go_ret2
    exact ⟨rfl, hb⟩
  · go_enter Tryz.func121, Tryz.ntmps121
    go_wp2_with (go_at_call 144; refine (tc _).mono ?_; rintro e w1 ⟨rfl, hb⟩)
    go_ret2
    exact ⟨rfl, hb⟩
 | true =>
  rw [if_pos rfl] at h
  obtain ⟨lb, hlb, h⟩ := Option.bind_eq_some_iff.mp h
  have lc := fun W => impl_labelBytes.calls k a1 lb W hlb
  by_cases hs : lb.size + 1 ≤ 9223372036854775807
  · rw [if_pos hs] at h
    obtain ⟨rfl, rfl⟩ := Prod.mk.inj (Option.some.inj h)
    have hsa := eq_true hs
    have hsc : (9223372036854775807 < lb.size + 1) = False := eq_false (by omega)
    clear h ht hlb
    rcases hk with rfl | rfl
    · go_enter Tryz.func121, Tryz.ntmps121
      go_wp2_with (first | (go_at_call 144; refine (tc _).mono ?_; rintro e w1 ⟨rfl, hb⟩) | (go_at_call 145; refine (lc _).mono ?_; rintro e w2 ⟨rfl, hb2⟩; have hb3 := below_then hb hb.size hb2))
      go_ret2
      exact ⟨rfl, hb3⟩
    · go_enter Tryz.func121, Tryz.ntmps121
      go_wp2_with (first | (go_at_call 144; refine (tc _).mono ?_; rintro e w1 ⟨rfl, hb⟩) | (go_at_call 145; refine (lc _).mono ?_; rintro e w2 ⟨rfl, hb2⟩; have hb3 := below_then hb hb.size hb2))
      go_ret2
      exact ⟨rfl, hb3⟩
  · rw [if_neg hs] at h; cases h
set_option maxHeartbeats 4000000 in
theorem data_soa (k : Nat) (a1 : ByteArray) (r1 : ByteArray) (r2 : Bool) (w : World) (h : dataSoa k a1 = some (r1, r2)) (hv : Vars w) :
 Calls Tryz.prog 121 #[.int .i64 6, .string a1] w fun e w' => e = .returned (.tuple #[.string r1, .bool r2]) ∧ Below w.heap.size w w' := by
 unfold dataSoa at h
 obtain ⟨⟨b1, b2⟩, hb0, h⟩ := Option.bind_eq_some_iff.mp h
 replace h : (if b2 = true then ((impl_big.f k b1 4).bind fun t => some (t, true)) else some badD) = some (r1, r2) := h
 have nc := fun W (hbW : Below w.heap.size w W) => impl_numberIn.calls a1 4294967295 b1 b2 W hb0 (Vars.below hv hbW)
 clear hv
 cases b2 with
 | false =>
  obtain ⟨rfl, rfl⟩ := Prod.mk.inj (Option.some.inj h)
  clear h
  go_enter Tryz.func121, Tryz.ntmps121
  go_wp2_with (go_at_call 142; refine (nc _ (Below.refl _ _)).mono ?_; rintro e w1 ⟨rfl, hb⟩)
  go_ret2
  exact ⟨rfl, hb⟩
 | true =>
  rw [if_pos rfl] at h
  obtain ⟨g, hg, h⟩ := Option.bind_eq_some_iff.mp h
  have gc := fun W => impl_big.calls k b1 4 g W hg
  obtain ⟨rfl, rfl⟩ := Prod.mk.inj (Option.some.inj h)
  clear h
  go_enter Tryz.func121, Tryz.ntmps121
  go_wp2_with (first | (go_at_call 142; refine (nc _ (Below.refl _ _)).mono ?_; rintro e w1 ⟨rfl, hb⟩) | (go_at_call 143; refine (gc _).mono ?_; rintro e w2 ⟨rfl, hb2⟩; have hb3 := below_then hb hb.size hb2))
  go_ret2
  exact ⟨rfl, hb3⟩
set_option maxHeartbeats 4000000 in
theorem data_mx (k : Nat) (a1 : ByteArray) (r1 : ByteArray) (r2 : Bool) (w : World) (h : dataMx k a1 = some (r1, r2)) (hv : Vars w) :
 Calls Tryz.prog 121 #[.int .i64 15, .string a1] w fun e w' => e = .returned (.tuple #[.string r1, .bool r2]) ∧ Below w.heap.size w w' := by
 unfold dataMx at h
 obtain ⟨⟨c1, c2, c3⟩, hc, h⟩ := Option.bind_eq_some_iff.mp h
 obtain ⟨⟨b1, b2⟩, hb0, h⟩ := Option.bind_eq_some_iff.mp h
 replace h : (if b2 = true then ((impl_isTarget.f c2).bind fun t => (if t = true then ((impl_big.f k b1 2).bind fun g => ((impl_labelBytes.f k c2).bind fun lb => (if g.size + lb.size ≤ 9223372036854775807 then (if g.size + lb.size + 1 ≤ 9223372036854775807 then some ((g ++ lb) ++ (⟨#[0]⟩ : ByteArray), true) else none) else none))) else some badD)) else some badD) = some (r1, r2) := h
 have cutc := fun W => strings_Cut.calls a1 (⟨#[32]⟩ : ByteArray) c1 c2 c3 W hc
 have nc := fun W (hbW : Below w.heap.size w W) => impl_numberIn.calls c1 65535 b1 b2 W hb0 (Vars.below hv hbW)
 clear hv
 cases b2 with
 | false =>
  obtain ⟨rfl, rfl⟩ := Prod.mk.inj (Option.some.inj h)
  clear h
  go_enter Tryz.func121, Tryz.ntmps121
  go_wp2_with (first | (go_at_call 146; refine (cutc _).mono ?_; rintro e w0 ⟨rfl, nd, rfl⟩; have hb0' := pw_below_drewN (Below.refl w.heap.size w) nd) | (go_at_call 142; refine (nc _ hb0').mono ?_; rintro e w1 ⟨rfl, hb⟩; have hb1 := below_then hb0' hb0'.size hb))
  go_ret2
  exact ⟨rfl, hb1⟩
 | true =>
  rw [if_pos rfl] at h
  obtain ⟨t, ht, h⟩ := Option.bind_eq_some_iff.mp h
  have tc := fun W => impl_isTarget.calls c2 t W ht
  cases t with
  | false =>
   obtain ⟨rfl, rfl⟩ := Prod.mk.inj (Option.some.inj h)
   clear h
   go_enter Tryz.func121, Tryz.ntmps121
   go_wp2_with (first | (go_at_call 146; refine (cutc _).mono ?_; rintro e w0 ⟨rfl, nd, rfl⟩; have hb0' := pw_below_drewN (Below.refl w.heap.size w) nd) | (go_at_call 142; refine (nc _ hb0').mono ?_; rintro e w1 ⟨rfl, hb⟩; have hb1 := below_then hb0' hb0'.size hb) | (go_at_call 144; refine (tc _).mono ?_; rintro e w2 ⟨rfl, hbt⟩; have hb2 := below_then hb1 hb1.size hbt))
   go_ret2
   exact ⟨rfl, hb2⟩
  | true =>
   rw [if_pos rfl] at h
   obtain ⟨g, hg, h⟩ := Option.bind_eq_some_iff.mp h
   obtain ⟨lb, hlb, h⟩ := Option.bind_eq_some_iff.mp h
   have gc := fun W => impl_big.calls k b1 2 g W hg
   have lc := fun W => impl_labelBytes.calls k c2 lb W hlb
   by_cases hs : g.size + lb.size ≤ 9223372036854775807
   · rw [if_pos hs] at h
     by_cases hs2 : g.size + lb.size + 1 ≤ 9223372036854775807
     · rw [if_pos hs2] at h
       obtain ⟨rfl, rfl⟩ := Prod.mk.inj (Option.some.inj h)
       have hsa := eq_true hs
       have hsc : (9223372036854775807 < g.size + lb.size) = False := eq_false (by omega)
       have hsa2 := eq_true hs2
       have hsc2 : (9223372036854775807 < g.size + lb.size + 1) = False := eq_false (by omega)
       clear h
       go_enter Tryz.func121, Tryz.ntmps121
       go_wp2_with (first | (go_at_call 146; refine (cutc _).mono ?_; rintro e w0 ⟨rfl, nd, rfl⟩; have hb0' := pw_below_drewN (Below.refl w.heap.size w) nd) | (go_at_call 142; refine (nc _ hb0').mono ?_; rintro e w1 ⟨rfl, hb⟩; have hb1 := below_then hb0' hb0'.size hb) | (go_at_call 144; refine (tc _).mono ?_; rintro e w2 ⟨rfl, hbt⟩; have hb2 := below_then hb1 hb1.size hbt) | (go_at_call 143; refine (gc _).mono ?_; rintro e w3 ⟨rfl, hbg⟩; have hb3 := below_then hb2 hb2.size hbg) | (go_at_call 145; refine (lc _).mono ?_; rintro e w4 ⟨rfl, hbl⟩; have hb4 := below_then hb3 hb3.size hbl))
       go_ret2
       exact ⟨rfl, hb4⟩
     · rw [if_neg hs2] at h; cases h
   · rw [if_neg hs] at h; cases h
set_option maxHeartbeats 4000000 in
theorem data_other (kind : Int) (h1 : kind ≠ 1) (h2 : kind ≠ 2) (h5 : kind ≠ 5) (h6 : kind ≠ 6) (h15 : kind ≠ 15) (h16 : kind ≠ 16) (a1 : ByteArray) (w : World) :
 Calls Tryz.prog 121 #[.int .i64 kind, .string a1] w fun e w' => e = .returned (.tuple #[.string (⟨#[]⟩ : ByteArray), .bool false]) ∧ Below w.heap.size w w' := by
 have g1 : (kind == 1) = false := beq_eq_false_iff_ne.mpr h1
 have g2 : (kind == 2) = false := beq_eq_false_iff_ne.mpr h2
 have g5 : (kind == 5) = false := beq_eq_false_iff_ne.mpr h5
 have g6 : (kind == 6) = false := beq_eq_false_iff_ne.mpr h6
 have g15 : (kind == 15) = false := beq_eq_false_iff_ne.mpr h15
 have g16 : (kind == 16) = false := beq_eq_false_iff_ne.mpr h16
 clear h1 h2 h5 h6 h15 h16
 go_enter Tryz.func121, Tryz.ntmps121
 go_wp2
 go_ret2
 exact ⟨rfl, Below.refl _ _⟩
theorem data_pred (xs : List Int) (W : World) : PredB 148 #[] (.int .u8) (fun c => decide (c < 32) || decide (c > 126)) xs W := by
 intro x hx W' hW
 have e : impl_DataBytes_1.f x = some (decide (x < 32) || decide (x > 126)) := by
  unfold impl_DataBytes_1.f
  by_cases h : x < 32
  · rw [if_pos h, decide_eq_true h]; rfl
  · rw [if_neg h, decide_eq_false h]; rfl
 refine (impl_DataBytes_1.calls x _ W' e).mono ?_
 rintro e w' ⟨he, nd, rfl⟩
 exact ⟨he, pw_below_drewN (Below.refl _ _) nd⟩
theorem bytes_len (s : ByteArray) : (bytesOf s).length = s.size := by
 unfold bytesOf
 simp only [List.length_map]
 exact (size_len s).symm
set_option maxRecDepth 100000 in
set_option maxHeartbeats 4000000 in
theorem data_txt (k : Nat) (a1 : ByteArray) (r1 : ByteArray) (r2 : Bool) (w : World) (h : dataTxt k a1 = some (r1, r2)) :
 Calls Tryz.prog 121 #[.int .i64 16, .string a1] w fun e w' => e = .returned (.tuple #[.string r1, .bool r2]) ∧ Below w.heap.size w w' := by
 unfold dataTxt at h
 by_cases h30 : (a1.size : Int) > 30
 · rw [if_pos h30] at h
   obtain ⟨rfl, rfl⟩ := Prod.mk.inj (Option.some.inj h)
   have e1 : decide (30 < a1.size) = true := decide_eq_true (by omega)
   have e2 : decide ((30 : Int) < (a1.size : Int)) = true := decide_eq_true (by omega)
   clear h
   go_enter Tryz.func121, Tryz.ntmps121
   go_wp2
   go_ret2
   exact ⟨rfl, Below.refl _ _⟩
 · rw [if_neg h30] at h
   have e1 : decide (30 < a1.size) = false := decide_eq_false (by omega)
   have e2 : decide ((30 : Int) < (a1.size : Int)) = false := decide_eq_false (by omega)
   have eg : ∀ args w, (callFunc 148 args).run Tryz.prog w = .ok (.enter 148 args) w := enters_of Tryz.func148 (by kernel_rfl) rfl
   have cc0 := fun W c => contains_byte (some ⟨W.heap.size, 0, none⟩) c (bytesOf a1) 148 #[] (fun c => decide (c < 32) || decide (c > 126)) (Lib.bytesWorld W 5 a1) (by
    have hr := bytes_reads W 5 a1 (by omega)
    have := Kd.C_of_reads (d := (0 : Int)) (h1 := fun _ => rfl) hr
    rw [show (bytesOf a1).length = a1.size by rw [bytes_len]]
    exact this) eg (data_pred _ _)
   have hlen : (bytesOf a1).length = a1.size := by rw [bytes_len]
   rw [hlen] at cc0
   generalize hany : (bytesOf a1).any (fun c => decide (c < 32) || decide (c > 126)) = b at h cc0
   have e30 : (30 < a1.size) = False := eq_false (by omega)
   have kb := fun W => print_bytes (P := Tryz.prog) 9 89 5 Tryz.underlying9 Tryz.underlying89 Tryz.underlying5 a1 W
   cases b with
   | true =>
    rw [if_pos rfl] at h
    obtain ⟨rfl, rfl⟩ := Prod.mk.inj (Option.some.inj h)
    clear h h30 hlen hany
    go_enter Tryz.func121, Tryz.ntmps121
    go_wp2_with (go_at_call 147; refine (cc0 _ _).mono ?_; rintro e w1 ⟨rfl, hb⟩; have hb1 := below_then (Lib.bytesWorld_below w 5 a1) (Lib.bytesWorld_below w 5 a1).size hb)
    go_ret2
    exact ⟨rfl, hb1⟩
   | false =>
    rw [if_neg (by simp)] at h
    obtain ⟨g, hg, h⟩ := Option.bind_eq_some_iff.mp h
    have gc := fun W => impl_big.calls k (a1.size : Int) 1 g W hg
    by_cases hs : g.size + a1.size ≤ 9223372036854775807
    · rw [if_pos hs] at h
      obtain ⟨rfl, rfl⟩ := Prod.mk.inj (Option.some.inj h)
      have hsa := eq_true hs
      have hsc : (9223372036854775807 < g.size + a1.size) = False := eq_false (by omega)
      clear h h30 hlen hany
      go_enter Tryz.func121, Tryz.ntmps121
      go_wp2_with (first | (go_at_call 147; refine (cc0 _ _).mono ?_; rintro e w1 ⟨rfl, hb⟩; have hb1 := below_then (Lib.bytesWorld_below w 5 a1) (Lib.bytesWorld_below w 5 a1).size hb) | (go_at_call 143; refine (gc _).mono ?_; rintro e w2 ⟨rfl, hbg⟩; have hb2 := below_then hb1 hb1.size hbg))
      go_ret2
      exact ⟨rfl, hb2⟩
    · rw [if_neg hs] at h; cases h
set_option maxRecDepth 100000 in
set_option maxHeartbeats 4000000 in
theorem data_a (k : Nat) (a1 : ByteArray) (parts : List ByteArray) (r1 : ByteArray) (r2 : Bool) (w : World) (hp : strings_Split.f a1 (⟨#[46]⟩ : ByteArray) = some parts) (h : impl_DataBytes.l0 k parts (⟨#[]⟩ : ByteArray) 0 = some (r1, r2)) (hv : Vars w) :
 Calls Tryz.prog 121 #[.int .i64 1, .string a1] w fun e w' => e = .returned (.tuple #[.string r1, .bool r2]) ∧ Below w.heap.size w w' := by
 have sc := fun W => strings_Split.calls a1 (⟨#[46]⟩ : ByteArray) parts W hp
 have HV := Aside0.mk hv
 have H' := Aside0.mk h
 clear h hv hp
 go_enter Tryz.func121, Tryz.ntmps121
 go_wp2_with (go_at_call 117; refine (sc _).mono ?_; rintro e w1 ⟨v, rfl, hR, hbw⟩; have HO := Aside0.mk hR; have HB1 := Aside0.mk hbw; clear hR hbw; obtain ⟨A, c, rfl⟩ := Kd.R_slice HO.out)
 go_loopg [6, 26] k (fun kq v6 v26 wr => ∃ (out : ByteArray) (x : Int), v6 = .string out ∧ v26 = .int .i64 x ∧ Aside0 (impl_DataBytes.l0 kq parts out x = some (r1, r2)) ∧ Aside0 (kq ≤ k) ∧ Aside0 (Kd.C Kd.string wr A parts.length parts) ∧ Aside0 (Below w.heap.size w wr))
 case atStart => exact ⟨(⟨#[]⟩ : ByteArray), 0, rfl, rfl, H', ⟨Nat.le_refl _⟩, ⟨(Kd.R_reads' HO.out).2.2⟩, HB1⟩
 case round =>
  obtain ⟨out, x, rfl, rfl, HA, HK1, HC, BW⟩ := hrel
  cases gk with
  | zero => exact absurd HA.out (by simp [impl_DataBytes.l0])
  | succ k1 =>
   have H := HA.out
   clear HA H'
   simp only [impl_DataBytes.l0] at H
   by_cases c1 : x < (parts.length : Int)
   · rw [if_pos c1] at H
     by_cases c2 : 0 ≤ x
     · rw [if_pos c2] at H
       obtain ⟨⟨b1, b2⟩, hb0, H⟩ := Option.bind_eq_some_iff.mp H
       replace H : (if b2 = true then (if (parts.length : Int) = 4 then ((impl_big.f k1 b1 1).bind fun t => (if out.size + t.size ≤ 9223372036854775807 then impl_DataBytes.l0 k1 parts (out ++ t) (wrap64 (x + 1)) else none)) else some badD) else some badD) = some (r1, r2) := H
       have nc := fun W (hbW : Below w.heap.size w W) => impl_numberIn.calls (rdOf ByteArray.empty parts x) 255 b1 b2 W hb0 (Vars.below HV.out hbW)
       have c1b : decide (x < (parts.length : Int)) = true := decide_eq_true c1
       obtain ⟨ad, e0, hx⟩ := Kd.at_string HC.out x c2 c1
       cases e0
       have c1z := eq_true c1
       have c2z := eq_true c2
       generalize rdOf ByteArray.empty parts x = pv at hb0 nc hx
       clear hb0
       have hbw := BW.out
       cases b2 with
       | false =>
        obtain ⟨rfl, rfl⟩ := Prod.mk.inj (Option.some.inj H)
        clear H
        go_wp2_with (go_at_call 142; refine (nc _ hbw).mono ?_; rintro e w2 ⟨rfl, hb2⟩)
        go_ret2
        exact ⟨rfl, below_then BW.out BW.out.size hb2⟩
       | true =>
        rw [if_pos rfl] at H
        by_cases c4 : (parts.length : Int) = 4
        · rw [if_pos c4] at H
          obtain ⟨g, hg, H⟩ := Option.bind_eq_some_iff.mp H
          have gc := fun W => impl_big.calls k1 b1 1 g W hg
          have c4a : ((parts.length : Int) == 4) = true := by rw [c4]; rfl
          have c4b : (parts.length == 4) = true := by rw [show parts.length = 4 by omega]; rfl
          have c4c : ((parts.length : Int) != 4) = false := by rw [c4]; rfl
          by_cases hs : out.size + g.size ≤ 9223372036854775807
          · rw [if_pos hs] at H
            have hsa := eq_true hs
            have hsc : (9223372036854775807 < out.size + g.size) = False := eq_false (by omega)
            have HN := Aside0.mk H
            clear H hg c4 hs
            go_wp2_with (first | (go_at_call 142; refine (nc _ hbw).mono ?_; rintro e w2 ⟨rfl, hb2⟩) | (go_at_call 143; refine (gc _).mono ?_; rintro e w3 ⟨rfl, hb3⟩; have hb4 := below_then hb2 hb2.size hb3))
            go_roundg k1
            case measure => have := HK1.out; omega
            case rel => exact ⟨out ++ g, wrap64 (x + 1), rfl, rfl, HN, ⟨by have := HK1.out; omega⟩, ⟨Kd.C_below HC.out hb4⟩, ⟨below_then BW.out BW.out.size hb4⟩⟩
          · rw [if_neg hs] at H; cases H
        · rw [if_neg c4] at H
          obtain ⟨rfl, rfl⟩ := Prod.mk.inj (Option.some.inj H)
          have c4a : ((parts.length : Int) == 4) = false := beq_eq_false_iff_ne.mpr c4
          have c4b : (parts.length == 4) = false := beq_eq_false_iff_ne.mpr (by omega)
          have c4c : ((parts.length : Int) != 4) = true := by rw [bne, c4a]; rfl
          clear H c4
          go_wp2_with (go_at_call 142; refine (nc _ hbw).mono ?_; rintro e w2 ⟨rfl, hb2⟩)
          go_ret2
          exact ⟨rfl, below_then BW.out BW.out.size hb2⟩
     · rw [if_neg c2] at H; cases H
   · rw [if_neg c1] at H
     have c1b : decide (x < (parts.length : Int)) = false := decide_eq_false c1
     obtain ⟨rfl, rfl⟩ := Prod.mk.inj (Option.some.inj H)
     clear H
     go_wp2
     go_ret2
     exact ⟨rfl, BW.out⟩
theorem impl_DataBytes.calls (k : Nat) (a0 : Int) (a1 : ByteArray) (r1 : ByteArray) (r2 : Bool) (w : World) (h : impl_DataBytes.f k a0 a1 = some (r1, r2))
 (hv : Vars w := by first | assumption | (refine Vars.below (Aside0.out (by assumption)) ?_; repeat (first | (with_reducible first | exact Below.refl _ _ | exact Aside0.out (by assumption) | apply below_alloc | apply pw_below_drewN | apply below_drew1) | exact Aside0.out (by assumption)))) :
 Calls Tryz.prog 121 #[.int .i64 a0, .string a1] w fun e w' => e = .returned (.tuple #[.string r1, .bool r2]) ∧ Below w.heap.size w w' := by
 unfold impl_DataBytes.f at h
 by_cases c1 : a0 = 1
 · rw [if_pos c1] at h
   subst c1
   obtain ⟨parts, hp, h⟩ := Option.bind_eq_some_iff.mp h
   exact data_a k a1 parts r1 r2 w hp h hv
 · rw [if_neg c1] at h
   by_cases c2 : a0 = 2 ∨ a0 = 5
   · rw [if_pos c2] at h
     exact data_ns k a0 c2 a1 r1 r2 w h hv
   · rw [if_neg c2] at h
     by_cases c6 : a0 = 6
     · rw [if_pos c6] at h
       subst c6
       exact data_soa k a1 r1 r2 w h hv
     · rw [if_neg c6] at h
       by_cases c15 : a0 = 15
       · rw [if_pos c15] at h
         subst c15
         exact data_mx k a1 r1 r2 w h hv
       · rw [if_neg c15] at h
         by_cases c16 : a0 = 16
         · rw [if_pos c16] at h
           subst c16
           exact data_txt k a1 r1 r2 w h
         · rw [if_neg c16] at h
           obtain ⟨rfl, rfl⟩ := Prod.mk.inj (Option.some.inj h)
           exact data_other a0 c1 (fun e => c2 (.inl e)) (fun e => c2 (.inr e)) c6 c15 c16 a1 w
end Go.Proofs.YtkpkfallgjdkmaaGreatDoor.P
namespace Go.Proofs.YtkpkfallgjdkmaaGreatDoor.P
open Go.RowKit Go.Proofs.YtkpkfallgjdkmaaGreatDoorW.PrintWords Go.Proofs.YtkpkfallgjdkmaaGreatDoorW.PrintLast Go.Proofs.YtkpkfallgjdkmaaGreatDoorW.PrintMore
attribute [local go_sem] max2_int min2_int max_two min_two max_three min_three max_four min_four
set_option linter.unusedVariables false
set_option linter.unusedSimpArgs false
def spec_l6List.l0 : Nat → List (S72) → List (S72) → Int → Int → Option (Bool)
 | 0, _, _, _, _ => none
 | k + 1, x0, x5, x6, x7 => if x7 < x6 then (if 0 ≤ x7 then (if x7 < (x5.length : Int) then ((spec_GoodRecord.f k ((rd_T72 x5 x7).f0) ((rd_T72 x5 x7).f1) ((rd_T72 x5 x7).f2) ((rd_T72 x5 x7).f3)).bind fun t687 => (if t687 = true then (if x7 > 0 then (if 0 ≤ (wrap64 (x7 - 1)) then (if (wrap64 (x7 - 1)) < (x0.length : Int) then ((spec_l3Compare.f k ((rd_T72 x0 (wrap64 (x7 - 1))).f0) ((rd_T72 x0 (wrap64 (x7 - 1))).f1) ((rd_T72 x0 (wrap64 (x7 - 1))).f2) ((rd_T72 x0 (wrap64 (x7 - 1))).f3) ((rd_T72 x5 x7).f0) ((rd_T72 x5 x7).f1) ((rd_T72 x5 x7).f2) ((rd_T72 x5 x7).f3)).bind fun t689 => (if t689 ≥ 0 then (some false) else (spec_l6List.l0 k x0 x5 x6 (wrap64 (x7 + 1))))) else (none)) else (none)) else (spec_l6List.l0 k x0 x5 x6 (wrap64 (x7 + 1)))) else (some false))) else (none)) else (none)) else (some (decide ((x0.length : Int) ≤ 40)))
def spec_l6List.f (k : Nat) (l0 : List (S72)) : Option (Bool) := spec_l6List.l0 k l0 l0 (l0.length : Int) 0
def spec_l6List.T4 : Bool × List (List Nat × List Nat) := (true, [([], []), ([0], [0]), ([1], [1]), ([2, 1], [2]), ([3], [3]), ([4, 3], [3, 4]), ([5, 3, 3], [3, 5]), ([6], [6]), ([6], [6]), ([8, 6], [6, 8]), ([7, 9, 6], [6, 7, 9]), ([10, 6], [6, 10]), ([6], [6]), ([11, 12, 6, 6], [6, 11, 12]), ([13, 6], [6, 13]), ([6, 14, 3], [3, 6, 14]), ([3, 15], [3, 15])])
def spec_l6List.B4 : List Nat := [0, 1, 3, 7, 15, 31, 63, 127, 127, 383, 1023, 2047, 127, 8191, 16383, 32767, 65535]
theorem spec_l6List.tab4 : rtab .any (opsOf Tryz.f56 4) = spec_l6List.T4 := by kernel_rfl
theorem spec_l6List.bits4 : waitsOk spec_l6List.T4.2 spec_l6List.B4 = true := by kernel_rfl
set_option maxHeartbeats 8000000 in
set_option maxRecDepth 100000 in
theorem spec_l6List.calls (k : Nat) (A0 : Option Addr) (c0 : Nat) (l0 : List (S72)) (r : Bool) (w : World) (hr0 : Kd.C k72 w A0 l0.length l0) (hc0 : l0.length ≤ c0) (h : spec_l6List.f k l0 = some r) :
 Calls Tryz.prog 56 #[.slice A0 l0.length c0] w fun e w' => e = .returned (.bool r) ∧ Below w.heap.size w w' := by
 have hu72 := Tryz.underlying72
 have HR0 := a0_ hr0
 have HC0 := a0_ hc0
 clear hr0 hc0
 have HB := a0_ (Below.refl w.heap.size w)
 have H : (spec_l6List.l0 k l0 l0 (l0.length : Int) 0) = some r := h
 clear h
 have H' := a0_ H
 clear H
 go_enter Tryz.func56, Tryz.ntmps56
 go_wp2
 go_loopg [7] k (fun kq v7 w' => ∃ (x7_1 : Int), v7 = .int .i64 x7_1 ∧ Aside0 (spec_l6List.l0 kq l0 l0 (l0.length : Int) x7_1 = some r) ∧ Aside0 (kq ≤ k) ∧ Aside0 (Below w.heap.size w w'))
 case atStart => exact ⟨(0), rs_, H', ⟨Nat.le_refl _⟩, ⟨bq0_⟩⟩
 case round =>
  clear H'
  obtain ⟨x7_1, rfl, HA, HK1, HB⟩ := hrel
  cases gk with
  | zero => exact absurd HA.out (by simp [spec_l6List.l0])
  | succ k1 =>
   have H := HA.out
   clear HA
   simp only [spec_l6List.l0] at H
   by_cases c2 : x7_1 < (l0.length : Int)
   case neg =>
    rw [if_neg c2] at H
    have c2b0 := decide_eq_false c2
    clear c2
    obtain rfl := Option.some.inj H
    go_wp2
    go_ret
    exact ⟨rr_, bq0_⟩
   rw [if_pos c2] at H
   have c2b0 := decide_eq_true c2
   clear c2
   by_cases c3 : 0 ≤ x7_1
   case neg =>
    rw [if_neg c3] at H
    exact absurd H (by simp)
   rw [if_pos c3] at H
   have c3b0 := decide_eq_true c3
   clear c3
   by_cases c4 : x7_1 < (l0.length : Int)
   case neg =>
    rw [if_neg c4] at H
    exact absurd H (by simp)
   rw [if_pos c4] at H
   have c4b0 := decide_eq_true c4
   clear c4
   obtain ⟨t687, A50, H⟩ := Option.bind_eq_some_iff.mp H
   have A5 := a0_ A50
   clear A50
   by_cases c6 : t687 = true
   case neg =>
    replace c6 := Bool.eq_false_iff.mpr c6
    subst c6
    rw [if_neg (show ¬ (false = true) by decide)] at H
    obtain rfl := Option.some.inj H
    have p685 : 0 ≤ (x7_1 : Int) := dec_
    have q685 : x7_1 < (l0.length : Int) := dec_
    obtain ⟨ad685, e685, hx685_0, hx685_1, hx685_2, hx685_3⟩ := at_T72 HR0.out x7_1 p685 q685
    cases e685
    obtain ⟨hx685_0, hx685_1, hx685_2, hx685_3⟩ := up4_ HB.out hx685_0 hx685_1 hx685_2 hx685_3
    replace p685 := eq_true p685
    replace q685 := eq_true q685
    try go_wp2_with (first | ((with_reducible refine gate_dst (N := 4) rfl ?_); refine boxS_ 4 #[.string (⟨#[]⟩ : ByteArray), .int .i64 0, .int .i64 0, .string (⟨#[]⟩ : ByteArray)] 72 (fun gb686 hg w30 hbox hb => ?_); have n0_ := a0_ (below_step bq0_ hb); have n1_ := a0_ (hbox); have n2_ := a0_ (gw_ hg : w.heap.size ≤ gb686); have n3_ := n2_; clear HB; have HB := n0_; have BK686 := n1_; have GW686 := n2_; have GE686 := n3_; clear n0_ n1_ n2_ n3_; clear hb hbox hg; obtain ⟨z31_0, z31_1, z31_2, z31_3, q31_0, q31_1, q31_2, q31_3⟩ := bk4_ BK686.out))
    have n0_ : Aside0 (((((w30.setCell ⟨gb686, 0, none⟩ (.string ((rd_T72 l0 x7_1).f0))).setCell ⟨gb686, 1, none⟩ (.int .i64 ((rd_T72 l0 x7_1).f1))).setCell ⟨gb686, 2, none⟩ (.int .i64 ((rd_T72 l0 x7_1).f2))).setCell ⟨gb686, 3, none⟩ (.string ((rd_T72 l0 x7_1).f3))).heap[gb686]? = some (.cells #[.string ((rd_T72 l0 x7_1).f0), .int .i64 ((rd_T72 l0 x7_1).f1), .int .i64 ((rd_T72 l0 x7_1).f2), .string ((rd_T72 l0 x7_1).f3)] 72 (0, 0))) := ⟨put4_ BK686.out⟩
    have n1_ : Aside0 (Below w.heap.size w ((((w30.setCell ⟨gb686, 0, none⟩ (.string ((rd_T72 l0 x7_1).f0))).setCell ⟨gb686, 1, none⟩ (.int .i64 ((rd_T72 l0 x7_1).f1))).setCell ⟨gb686, 2, none⟩ (.int .i64 ((rd_T72 l0 x7_1).f2))).setCell ⟨gb686, 3, none⟩ (.string ((rd_T72 l0 x7_1).f3)))) := ⟨bq1_⟩
    (try clear BK686)
    (try clear HB)
    generalize ((((w30.setCell ⟨gb686, 0, none⟩ (.string ((rd_T72 l0 x7_1).f0))).setCell ⟨gb686, 1, none⟩ (.int .i64 ((rd_T72 l0 x7_1).f1))).setCell ⟨gb686, 2, none⟩ (.int .i64 ((rd_T72 l0 x7_1).f2))).setCell ⟨gb686, 3, none⟩ (.string ((rd_T72 l0 x7_1).f3))) = w32 at n0_ n1_ ⊢
    have BK686 := n0_
    have HB := n1_
    clear n0_ n1_
    replace BK686 := a0_ (blk_drew BK686.out)
    replace HB := a0_ (below_drew1 HB.out)
    refine start_ (n := 17) (S := fun w' => w'.cell? ⟨gb686, 0, none⟩ = some (.string ((rd_T72 l0 x7_1).f0)) ∧ w'.cell? ⟨gb686, 1, none⟩ = some (.int .i64 ((rd_T72 l0 x7_1).f1)) ∧ w'.cell? ⟨gb686, 2, none⟩ = some (.int .i64 ((rd_T72 l0 x7_1).f2)) ∧ w'.cell? ⟨gb686, 3, none⟩ = some (.string ((rd_T72 l0 x7_1).f3))) (ds := []) #[false, false, false, false, false, false, false, false, false, false, false, false, false, false, false, false, false] (by kernel_rfl) rfl rfl ⟨(blk_cell BK686.out 0).trans rfl, (blk_cell BK686.out 1).trans rfl, (blk_cell BK686.out 2).trans rfl, (blk_cell BK686.out 3).trans rfl⟩ (fun hHeld => ?_); refine with_tabW spec_l6List.tab4 spec_l6List.bits4 (fun HT_ HW_ => ?_)
    generalize w32.drew = w33 at BK686 HB hHeld ⊢
    refine takeS_ 0 (some 12) ?_
    refine oneS_ 1 (some 13) (fun K hK => ?_)
    refine goes_ Tryz.func82 (by kernel_rfl) rfl #[.agg #[.string ((rd_T72 l0 x7_1).f0), .int .i64 ((rd_T72 l0 x7_1).f1), .int .i64 ((rd_T72 l0 x7_1).f2), .string ((rd_T72 l0 x7_1).f3)]] (by rfl) rfl rfl argsS_ ?_
    with_reducible refine (spec_GoodRecord.calls k1 ((rd_T72 l0 x7_1).f0) ((rd_T72 l0 x7_1).f1) ((rd_T72 l0 x7_1).f2) ((rd_T72 l0 x7_1).f3) false _ A5.out).mono ?_
    rintro e w34 ⟨rfl, hb⟩
    refine ⟨_, rfl, ?_⟩
    replace BK686 := a0_ (bkB_ BK686 hb)
    replace HB := a0_ (below_step bq1_ hb)
    (try clear hb)
    (try clear hb2)
    (try clear hk)
    (try clear hi)
    refine hK.out _ _ ⟨(blk_cell BK686.out 0).trans rfl, (blk_cell BK686.out 1).trans rfl, (blk_cell BK686.out 2).trans rfl, (blk_cell BK686.out 3).trans rfl⟩ (fun hHeld => ?_)
    clear hK K
    refine normS_ ?_
    refine pureS_ 2 (some 14) ?_
    refine pureS_ 3 (some 15) ?_
    refine skipS_ 4 (some 16) ?_
    refine skipS_ 5 (some 17) ?_
    refine skipS_ 6 (some 18) ?_
    refine skipS_ 7 (some 19) ?_
    refine skipS_ 8 (some 20) ?_
    refine skipS_ 9 (some 21) ?_
    refine skipS_ 10 (some 22) ?_
    refine skipS_ 11 (some 23) ?_
    refine skipS_ 12 (some 24) ?_
    refine skipS_ 13 (some 25) ?_
    refine skipS_ 14 (some 26) ?_
    refine skipS_ 15 (some 27) ?_
    refine pureS_ 16 (some 28) ?_
    refine done_ (done_of HT_.out (by kernel_rfl)) ?_
    try go_wp2
    go_ret
    exact ⟨rr_, bq1_⟩
   subst c6
   rw [if_pos rfl] at H
   by_cases c7 : x7_1 > 0
   case neg =>
    rw [if_neg c7] at H
    have c7b0 := decide_eq_false c7
    clear c7
    have H' := a0_ H
    clear H
    have p685 : 0 ≤ (x7_1 : Int) := dec_
    have q685 : x7_1 < (l0.length : Int) := dec_
    obtain ⟨ad685, e685, hx685_0, hx685_1, hx685_2, hx685_3⟩ := at_T72 HR0.out x7_1 p685 q685
    cases e685
    obtain ⟨hx685_0, hx685_1, hx685_2, hx685_3⟩ := up4_ HB.out hx685_0 hx685_1 hx685_2 hx685_3
    replace p685 := eq_true p685
    replace q685 := eq_true q685
    try go_wp2_with (first | ((with_reducible refine gate_dst (N := 4) rfl ?_); refine boxS_ 4 #[.string (⟨#[]⟩ : ByteArray), .int .i64 0, .int .i64 0, .string (⟨#[]⟩ : ByteArray)] 72 (fun gb686 hg w25 hbox hb => ?_); have n0_ := a0_ (below_step bq0_ hb); have n1_ := a0_ (hbox); have n2_ := a0_ (gw_ hg : w.heap.size ≤ gb686); have n3_ := n2_; clear HB; have HB := n0_; have BK686 := n1_; have GW686 := n2_; have GE686 := n3_; clear n0_ n1_ n2_ n3_; clear hb hbox hg; obtain ⟨z26_0, z26_1, z26_2, z26_3, q26_0, q26_1, q26_2, q26_3⟩ := bk4_ BK686.out))
    have n0_ : Aside0 (((((w25.setCell ⟨gb686, 0, none⟩ (.string ((rd_T72 l0 x7_1).f0))).setCell ⟨gb686, 1, none⟩ (.int .i64 ((rd_T72 l0 x7_1).f1))).setCell ⟨gb686, 2, none⟩ (.int .i64 ((rd_T72 l0 x7_1).f2))).setCell ⟨gb686, 3, none⟩ (.string ((rd_T72 l0 x7_1).f3))).heap[gb686]? = some (.cells #[.string ((rd_T72 l0 x7_1).f0), .int .i64 ((rd_T72 l0 x7_1).f1), .int .i64 ((rd_T72 l0 x7_1).f2), .string ((rd_T72 l0 x7_1).f3)] 72 (0, 0))) := ⟨put4_ BK686.out⟩
    have n1_ : Aside0 (Below w.heap.size w ((((w25.setCell ⟨gb686, 0, none⟩ (.string ((rd_T72 l0 x7_1).f0))).setCell ⟨gb686, 1, none⟩ (.int .i64 ((rd_T72 l0 x7_1).f1))).setCell ⟨gb686, 2, none⟩ (.int .i64 ((rd_T72 l0 x7_1).f2))).setCell ⟨gb686, 3, none⟩ (.string ((rd_T72 l0 x7_1).f3)))) := ⟨bq1_⟩
    (try clear BK686)
    (try clear HB)
    generalize ((((w25.setCell ⟨gb686, 0, none⟩ (.string ((rd_T72 l0 x7_1).f0))).setCell ⟨gb686, 1, none⟩ (.int .i64 ((rd_T72 l0 x7_1).f1))).setCell ⟨gb686, 2, none⟩ (.int .i64 ((rd_T72 l0 x7_1).f2))).setCell ⟨gb686, 3, none⟩ (.string ((rd_T72 l0 x7_1).f3))) = w27 at n0_ n1_ ⊢
    have BK686 := n0_
    have HB := n1_
    clear n0_ n1_
    replace BK686 := a0_ (blk_drew BK686.out)
    replace HB := a0_ (below_drew1 HB.out)
    refine start_ (n := 17) (S := fun w' => w'.cell? ⟨gb686, 0, none⟩ = some (.string ((rd_T72 l0 x7_1).f0)) ∧ w'.cell? ⟨gb686, 1, none⟩ = some (.int .i64 ((rd_T72 l0 x7_1).f1)) ∧ w'.cell? ⟨gb686, 2, none⟩ = some (.int .i64 ((rd_T72 l0 x7_1).f2)) ∧ w'.cell? ⟨gb686, 3, none⟩ = some (.string ((rd_T72 l0 x7_1).f3))) (ds := []) #[false, false, false, false, false, false, false, false, false, false, false, false, false, false, false, false, false] (by kernel_rfl) rfl rfl ⟨(blk_cell BK686.out 0).trans rfl, (blk_cell BK686.out 1).trans rfl, (blk_cell BK686.out 2).trans rfl, (blk_cell BK686.out 3).trans rfl⟩ (fun hHeld => ?_); refine with_tabW spec_l6List.tab4 spec_l6List.bits4 (fun HT_ HW_ => ?_)
    generalize w27.drew = w28 at BK686 HB hHeld ⊢
    refine takeS_ 0 (some 12) ?_
    refine oneS_ 1 (some 13) (fun K hK => ?_)
    refine goes_ Tryz.func82 (by kernel_rfl) rfl #[.agg #[.string ((rd_T72 l0 x7_1).f0), .int .i64 ((rd_T72 l0 x7_1).f1), .int .i64 ((rd_T72 l0 x7_1).f2), .string ((rd_T72 l0 x7_1).f3)]] (by rfl) rfl rfl argsS_ ?_
    with_reducible refine (spec_GoodRecord.calls k1 ((rd_T72 l0 x7_1).f0) ((rd_T72 l0 x7_1).f1) ((rd_T72 l0 x7_1).f2) ((rd_T72 l0 x7_1).f3) true _ A5.out).mono ?_
    rintro e w29 ⟨rfl, hb⟩
    refine ⟨_, rfl, ?_⟩
    replace BK686 := a0_ (bkB_ BK686 hb)
    replace HB := a0_ (below_step bq1_ hb)
    (try clear hb)
    (try clear hb2)
    (try clear hk)
    (try clear hi)
    refine hK.out _ _ ⟨(blk_cell BK686.out 0).trans rfl, (blk_cell BK686.out 1).trans rfl, (blk_cell BK686.out 2).trans rfl, (blk_cell BK686.out 3).trans rfl⟩ (fun hHeld => ?_)
    clear hK K
    refine normS_ ?_
    refine pureS_ 2 (some 14) ?_
    refine pureS_ 3 (some 15) ?_
    refine pureS_ 4 (some 16) ?_
    refine pureS_ 5 (some 17) ?_
    refine pureS_ 6 (some 18) ?_
    refine skipS_ 7 (some 19) ?_
    refine skipS_ 8 (some 20) ?_
    refine skipS_ 9 (some 21) ?_
    refine skipS_ 10 (some 22) ?_
    refine skipS_ 11 (some 23) ?_
    refine skipS_ 12 (some 24) ?_
    refine skipS_ 13 (some 25) ?_
    refine skipS_ 14 (some 26) ?_
    refine pureS_ 15 (some 27) ?_
    refine pureS_ 16 (some 28) ?_
    refine done_ (done_of HT_.out (by kernel_rfl)) ?_
    try go_wp2
    go_roundg k1
    case measure => have := HK1.out; omega
    case rel => exact ⟨(wrap64 (x7_1 + 1)), rs_, H', ⟨by have := HK1.out; omega⟩, ⟨bq1_⟩⟩
   rw [if_pos c7] at H
   have c7b0 := decide_eq_true c7
   clear c7
   obtain ⟨ji8, hji8⟩ : ∃ j_ : Int, (wrap64 (x7_1 - 1)) = j_ := ⟨_, rfl⟩
   replace H : (if 0 ≤ (ji8) then (if (ji8) < (l0.length : Int) then ((spec_l3Compare.f k1 ((rd_T72 l0 (ji8)).f0) ((rd_T72 l0 (ji8)).f1) ((rd_T72 l0 (ji8)).f2) ((rd_T72 l0 (ji8)).f3) ((rd_T72 l0 x7_1).f0) ((rd_T72 l0 x7_1).f1) ((rd_T72 l0 x7_1).f2) ((rd_T72 l0 x7_1).f3)).bind fun t689 => (if t689 ≥ 0 then (some false) else (spec_l6List.l0 k1 l0 l0 (l0.length : Int) (wrap64 (x7_1 + 1))))) else (none)) else (none)) = some r := by first | (rw [hji8] at H; exact H) | (simp only [hji8] at H ⊢; exact H)
   (try rw [hji8] at A5)
   have hji8w : (IntKind.i64.wrap (x7_1 - 1)) = ji8 := (i64_w _).trans hji8
   by_cases c9 : 0 ≤ (ji8)
   case neg =>
    rw [if_neg c9] at H
    exact absurd H (by simp)
   rw [if_pos c9] at H
   have c9b0 := decide_eq_true c9
   clear c9
   by_cases c10 : (ji8) < (l0.length : Int)
   case neg =>
    rw [if_neg c10] at H
    exact absurd H (by simp)
   rw [if_pos c10] at H
   have c10b0 := decide_eq_true c10
   clear c10
   obtain ⟨t689, A110, H⟩ := Option.bind_eq_some_iff.mp H
   have A11 := a0_ A110
   clear A110
   by_cases c12 : t689 ≥ 0
   case pos =>
    rw [if_pos c12] at H
    have c12b0 := decide_eq_true c12
    clear c12
    obtain rfl := Option.some.inj H
    have p685 : 0 ≤ (x7_1 : Int) := dec_
    have q685 : x7_1 < (l0.length : Int) := dec_
    obtain ⟨ad685, e685, hx685_0, hx685_1, hx685_2, hx685_3⟩ := at_T72 HR0.out x7_1 p685 q685
    cases e685
    obtain ⟨hx685_0, hx685_1, hx685_2, hx685_3⟩ := up4_ HB.out hx685_0 hx685_1 hx685_2 hx685_3
    replace p685 := eq_true p685
    replace q685 := eq_true q685
    try go_wp2_with (first | ((with_reducible refine gate_dst (N := 4) rfl ?_); refine boxS_ 4 #[.string (⟨#[]⟩ : ByteArray), .int .i64 0, .int .i64 0, .string (⟨#[]⟩ : ByteArray)] 72 (fun gb686 hg w13 hbox hb => ?_); have n0_ := a0_ (below_step bq0_ hb); have n1_ := a0_ (hbox); have n2_ := a0_ (gw_ hg : w.heap.size ≤ gb686); have n3_ := n2_; clear HB; have HB := n0_; have BK686 := n1_; have GW686 := n2_; have GE686 := n3_; clear n0_ n1_ n2_ n3_; clear hb hbox hg; obtain ⟨z14_0, z14_1, z14_2, z14_3, q14_0, q14_1, q14_2, q14_3⟩ := bk4_ BK686.out))
    have n0_ : Aside0 (((((w13.setCell ⟨gb686, 0, none⟩ (.string ((rd_T72 l0 x7_1).f0))).setCell ⟨gb686, 1, none⟩ (.int .i64 ((rd_T72 l0 x7_1).f1))).setCell ⟨gb686, 2, none⟩ (.int .i64 ((rd_T72 l0 x7_1).f2))).setCell ⟨gb686, 3, none⟩ (.string ((rd_T72 l0 x7_1).f3))).heap[gb686]? = some (.cells #[.string ((rd_T72 l0 x7_1).f0), .int .i64 ((rd_T72 l0 x7_1).f1), .int .i64 ((rd_T72 l0 x7_1).f2), .string ((rd_T72 l0 x7_1).f3)] 72 (0, 0))) := ⟨put4_ BK686.out⟩
    have n1_ : Aside0 (Below w.heap.size w ((((w13.setCell ⟨gb686, 0, none⟩ (.string ((rd_T72 l0 x7_1).f0))).setCell ⟨gb686, 1, none⟩ (.int .i64 ((rd_T72 l0 x7_1).f1))).setCell ⟨gb686, 2, none⟩ (.int .i64 ((rd_T72 l0 x7_1).f2))).setCell ⟨gb686, 3, none⟩ (.string ((rd_T72 l0 x7_1).f3)))) := ⟨bq1_⟩
    (try clear BK686)
    (try clear HB)
    generalize ((((w13.setCell ⟨gb686, 0, none⟩ (.string ((rd_T72 l0 x7_1).f0))).setCell ⟨gb686, 1, none⟩ (.int .i64 ((rd_T72 l0 x7_1).f1))).setCell ⟨gb686, 2, none⟩ (.int .i64 ((rd_T72 l0 x7_1).f2))).setCell ⟨gb686, 3, none⟩ (.string ((rd_T72 l0 x7_1).f3))) = w15 at n0_ n1_ ⊢
    have BK686 := n0_
    have HB := n1_
    clear n0_ n1_
    replace BK686 := a0_ (blk_drew BK686.out)
    replace HB := a0_ (below_drew1 HB.out)
    have p688 : 0 ≤ ((ji8) : Int) := dec_
    have q688 : (ji8) < (l0.length : Int) := dec_
    obtain ⟨ad688, e688, hx688_0, hx688_1, hx688_2, hx688_3⟩ := at_T72 HR0.out (ji8) p688 q688
    have hw688_3 := hx688_3
    have hw688_2 := hx688_2
    have hw688_1 := hx688_1
    have hw688_0 := hx688_0
    obtain rfl : ad685 = ad688 := (by injection e688)
    obtain ⟨hx688_0, hx688_1, hx688_2, hx688_3⟩ := up4_ HB.out hx688_0 hx688_1 hx688_2 hx688_3
    replace p688 := eq_true p688
    replace q688 := eq_true q688
    refine start_ (n := 17) (S := fun w' => w'.cell? ⟨gb686, 0, none⟩ = some (.string ((rd_T72 l0 x7_1).f0)) ∧ w'.cell? ⟨gb686, 1, none⟩ = some (.int .i64 ((rd_T72 l0 x7_1).f1)) ∧ w'.cell? ⟨gb686, 2, none⟩ = some (.int .i64 ((rd_T72 l0 x7_1).f2)) ∧ w'.cell? ⟨gb686, 3, none⟩ = some (.string ((rd_T72 l0 x7_1).f3)) ∧ w'.cell? (ad685.add (((ji8)).toNat * 4)) = some (.string ((rd_T72 l0 (ji8)).f0)) ∧ w'.cell? ⟨(ad685.add (((ji8)).toNat * 4)).block, (ad685.add (((ji8)).toNat * 4)).off + 1, none⟩ = some (.int .i64 ((rd_T72 l0 (ji8)).f1)) ∧ w'.cell? ⟨(ad685.add (((ji8)).toNat * 4)).block, (ad685.add (((ji8)).toNat * 4)).off + 2, none⟩ = some (.int .i64 ((rd_T72 l0 (ji8)).f2)) ∧ w'.cell? ⟨(ad685.add (((ji8)).toNat * 4)).block, (ad685.add (((ji8)).toNat * 4)).off + 3, none⟩ = some (.string ((rd_T72 l0 (ji8)).f3))) (ds := []) #[false, false, false, false, false, false, false, false, false, false, false, false, false, false, false, false, false] (by kernel_rfl) rfl rfl ⟨(blk_cell BK686.out 0).trans rfl, (blk_cell BK686.out 1).trans rfl, (blk_cell BK686.out 2).trans rfl, (blk_cell BK686.out 3).trans rfl, ((HB.out.cell (World.block_lt_of_cell? w _ hw688_0)).trans hw688_0), ((HB.out.cell (World.block_lt_of_cell? w _ hw688_1)).trans hw688_1), ((HB.out.cell (World.block_lt_of_cell? w _ hw688_2)).trans hw688_2), ((HB.out.cell (World.block_lt_of_cell? w _ hw688_3)).trans hw688_3)⟩ (fun hHeld => ?_); refine with_tabW spec_l6List.tab4 spec_l6List.bits4 (fun HT_ HW_ => ?_)
    generalize w15.drew = w16 at BK686 HB hx688_0 hx688_1 hx688_2 hx688_3 hHeld ⊢
    refine takeS_ 0 (some 12) ?_
    refine oneS_ 1 (some 13) (fun K hK => ?_)
    refine goes_ Tryz.func82 (by kernel_rfl) rfl #[.agg #[.string ((rd_T72 l0 x7_1).f0), .int .i64 ((rd_T72 l0 x7_1).f1), .int .i64 ((rd_T72 l0 x7_1).f2), .string ((rd_T72 l0 x7_1).f3)]] (by rfl) rfl rfl argsS_ ?_
    with_reducible refine (spec_GoodRecord.calls k1 ((rd_T72 l0 x7_1).f0) ((rd_T72 l0 x7_1).f1) ((rd_T72 l0 x7_1).f2) ((rd_T72 l0 x7_1).f3) true _ A5.out).mono ?_
    rintro e w17 ⟨rfl, hb⟩
    refine ⟨_, rfl, ?_⟩
    replace BK686 := a0_ (bkB_ BK686 hb)
    replace HB := a0_ (below_step bq1_ hb)
    (try clear hb)
    (try clear hb2)
    (try clear hk)
    (try clear hi)
    refine hK.out _ _ ⟨(blk_cell BK686.out 0).trans rfl, (blk_cell BK686.out 1).trans rfl, (blk_cell BK686.out 2).trans rfl, (blk_cell BK686.out 3).trans rfl, ((HB.out.cell (World.block_lt_of_cell? w _ hw688_0)).trans hw688_0), ((HB.out.cell (World.block_lt_of_cell? w _ hw688_1)).trans hw688_1), ((HB.out.cell (World.block_lt_of_cell? w _ hw688_2)).trans hw688_2), ((HB.out.cell (World.block_lt_of_cell? w _ hw688_3)).trans hw688_3)⟩ (fun hHeld => ?_)
    clear hK K
    refine normS_ ?_
    refine pureS_ 2 (some 14) ?_
    refine pureS_ 3 (some 15) ?_
    refine pureS_ 4 (some 16) ?_
    refine pureS_ 5 (some 17) ?_
    refine pureS_ 6 (some 18) ?_
    refine pureS_ 7 (some 19) ?_
    refine pureS_ 8 (some 20) ?_
    refine pureS_ 9 (some 21) ?_
    refine pureS_ 10 (some 22) ?_
    refine takeS_ 11 (some 23) ?_
    refine takeS_ 12 (some 24) ?_
    refine oneS_ 13 (some 25) (fun K hK => ?_)
    refine goes_ Tryz.func83 (by kernel_rfl) rfl #[.agg #[.string ((rd_T72 l0 (ji8)).f0), .int .i64 ((rd_T72 l0 (ji8)).f1), .int .i64 ((rd_T72 l0 (ji8)).f2), .string ((rd_T72 l0 (ji8)).f3)], .agg #[.string ((rd_T72 l0 x7_1).f0), .int .i64 ((rd_T72 l0 x7_1).f1), .int .i64 ((rd_T72 l0 x7_1).f2), .string ((rd_T72 l0 x7_1).f3)]] (by rfl) rfl rfl (by (try simp only [List.map_toArray, List.map_cons, List.map_nil]); first | done | (simp only [hji8]; rfl) | rfl | (simp only [List.length_drop, List.length_take]; rfl)) ?_
    with_reducible refine (spec_l3Compare.calls k1 ((rd_T72 l0 (ji8)).f0) ((rd_T72 l0 (ji8)).f1) ((rd_T72 l0 (ji8)).f2) ((rd_T72 l0 (ji8)).f3) ((rd_T72 l0 x7_1).f0) ((rd_T72 l0 x7_1).f1) ((rd_T72 l0 x7_1).f2) ((rd_T72 l0 x7_1).f3) t689 _ A11.out).mono ?_
    rintro e w18 ⟨rfl, hb⟩
    refine ⟨_, rfl, ?_⟩
    replace BK686 := a0_ (bkB_ BK686 hb)
    replace HB := a0_ (below_step bq1_ hb)
    (try clear hb)
    (try clear hb2)
    (try clear hk)
    (try clear hi)
    refine hK.out _ _ ⟨(blk_cell BK686.out 0).trans rfl, (blk_cell BK686.out 1).trans rfl, (blk_cell BK686.out 2).trans rfl, (blk_cell BK686.out 3).trans rfl, ((HB.out.cell (World.block_lt_of_cell? w _ hw688_0)).trans hw688_0), ((HB.out.cell (World.block_lt_of_cell? w _ hw688_1)).trans hw688_1), ((HB.out.cell (World.block_lt_of_cell? w _ hw688_2)).trans hw688_2), ((HB.out.cell (World.block_lt_of_cell? w _ hw688_3)).trans hw688_3)⟩ (fun hHeld => ?_)
    clear hK K
    refine normS_ ?_
    refine pureS_ 14 (some 26) ?_
    refine pureS_ 15 (some 27) ?_
    refine pureS_ 16 (some 28) ?_
    refine done_ (done_of HT_.out (by kernel_rfl)) ?_
    try go_wp2
    go_ret
    exact ⟨by first | rfl | (simp [errW_none, errW_some] <;> rfl) | (simp only [← hji8]; first | rfl | (simp [errW_none, errW_some] <;> rfl)) | (simp [*, errW_none, errW_some] <;> rfl), bq1_⟩
   rw [if_neg c12] at H
   have c12b0 := decide_eq_false c12
   clear c12
   have H' := a0_ H
   clear H
   have p685 : 0 ≤ (x7_1 : Int) := dec_
   have q685 : x7_1 < (l0.length : Int) := dec_
   obtain ⟨ad685, e685, hx685_0, hx685_1, hx685_2, hx685_3⟩ := at_T72 HR0.out x7_1 p685 q685
   cases e685
   obtain ⟨hx685_0, hx685_1, hx685_2, hx685_3⟩ := up4_ HB.out hx685_0 hx685_1 hx685_2 hx685_3
   replace p685 := eq_true p685
   replace q685 := eq_true q685
   try go_wp2_with (first | ((with_reducible refine gate_dst (N := 4) rfl ?_); refine boxS_ 4 #[.string (⟨#[]⟩ : ByteArray), .int .i64 0, .int .i64 0, .string (⟨#[]⟩ : ByteArray)] 72 (fun gb686 hg w19 hbox hb => ?_); have n0_ := a0_ (below_step bq0_ hb); have n1_ := a0_ (hbox); have n2_ := a0_ (gw_ hg : w.heap.size ≤ gb686); have n3_ := n2_; clear HB; have HB := n0_; have BK686 := n1_; have GW686 := n2_; have GE686 := n3_; clear n0_ n1_ n2_ n3_; clear hb hbox hg; obtain ⟨z20_0, z20_1, z20_2, z20_3, q20_0, q20_1, q20_2, q20_3⟩ := bk4_ BK686.out))
   have n0_ : Aside0 (((((w19.setCell ⟨gb686, 0, none⟩ (.string ((rd_T72 l0 x7_1).f0))).setCell ⟨gb686, 1, none⟩ (.int .i64 ((rd_T72 l0 x7_1).f1))).setCell ⟨gb686, 2, none⟩ (.int .i64 ((rd_T72 l0 x7_1).f2))).setCell ⟨gb686, 3, none⟩ (.string ((rd_T72 l0 x7_1).f3))).heap[gb686]? = some (.cells #[.string ((rd_T72 l0 x7_1).f0), .int .i64 ((rd_T72 l0 x7_1).f1), .int .i64 ((rd_T72 l0 x7_1).f2), .string ((rd_T72 l0 x7_1).f3)] 72 (0, 0))) := ⟨put4_ BK686.out⟩
   have n1_ : Aside0 (Below w.heap.size w ((((w19.setCell ⟨gb686, 0, none⟩ (.string ((rd_T72 l0 x7_1).f0))).setCell ⟨gb686, 1, none⟩ (.int .i64 ((rd_T72 l0 x7_1).f1))).setCell ⟨gb686, 2, none⟩ (.int .i64 ((rd_T72 l0 x7_1).f2))).setCell ⟨gb686, 3, none⟩ (.string ((rd_T72 l0 x7_1).f3)))) := ⟨bq1_⟩
   (try clear BK686)
   (try clear HB)
   generalize ((((w19.setCell ⟨gb686, 0, none⟩ (.string ((rd_T72 l0 x7_1).f0))).setCell ⟨gb686, 1, none⟩ (.int .i64 ((rd_T72 l0 x7_1).f1))).setCell ⟨gb686, 2, none⟩ (.int .i64 ((rd_T72 l0 x7_1).f2))).setCell ⟨gb686, 3, none⟩ (.string ((rd_T72 l0 x7_1).f3))) = w21 at n0_ n1_ ⊢
   have BK686 := n0_
   have HB := n1_
   clear n0_ n1_
   replace BK686 := a0_ (blk_drew BK686.out)
   replace HB := a0_ (below_drew1 HB.out)
   have p688 : 0 ≤ ((ji8) : Int) := dec_
   have q688 : (ji8) < (l0.length : Int) := dec_
   obtain ⟨ad688, e688, hx688_0, hx688_1, hx688_2, hx688_3⟩ := at_T72 HR0.out (ji8) p688 q688
   have hw688_3 := hx688_3
   have hw688_2 := hx688_2
   have hw688_1 := hx688_1
   have hw688_0 := hx688_0
   obtain rfl : ad685 = ad688 := (by injection e688)
   obtain ⟨hx688_0, hx688_1, hx688_2, hx688_3⟩ := up4_ HB.out hx688_0 hx688_1 hx688_2 hx688_3
   replace p688 := eq_true p688
   replace q688 := eq_true q688
   refine start_ (n := 17) (S := fun w' => w'.cell? ⟨gb686, 0, none⟩ = some (.string ((rd_T72 l0 x7_1).f0)) ∧ w'.cell? ⟨gb686, 1, none⟩ = some (.int .i64 ((rd_T72 l0 x7_1).f1)) ∧ w'.cell? ⟨gb686, 2, none⟩ = some (.int .i64 ((rd_T72 l0 x7_1).f2)) ∧ w'.cell? ⟨gb686, 3, none⟩ = some (.string ((rd_T72 l0 x7_1).f3)) ∧ w'.cell? (ad685.add (((ji8)).toNat * 4)) = some (.string ((rd_T72 l0 (ji8)).f0)) ∧ w'.cell? ⟨(ad685.add (((ji8)).toNat * 4)).block, (ad685.add (((ji8)).toNat * 4)).off + 1, none⟩ = some (.int .i64 ((rd_T72 l0 (ji8)).f1)) ∧ w'.cell? ⟨(ad685.add (((ji8)).toNat * 4)).block, (ad685.add (((ji8)).toNat * 4)).off + 2, none⟩ = some (.int .i64 ((rd_T72 l0 (ji8)).f2)) ∧ w'.cell? ⟨(ad685.add (((ji8)).toNat * 4)).block, (ad685.add (((ji8)).toNat * 4)).off + 3, none⟩ = some (.string ((rd_T72 l0 (ji8)).f3))) (ds := []) #[false, false, false, false, false, false, false, false, false, false, false, false, false, false, false, false, false] (by kernel_rfl) rfl rfl ⟨(blk_cell BK686.out 0).trans rfl, (blk_cell BK686.out 1).trans rfl, (blk_cell BK686.out 2).trans rfl, (blk_cell BK686.out 3).trans rfl, ((HB.out.cell (World.block_lt_of_cell? w _ hw688_0)).trans hw688_0), ((HB.out.cell (World.block_lt_of_cell? w _ hw688_1)).trans hw688_1), ((HB.out.cell (World.block_lt_of_cell? w _ hw688_2)).trans hw688_2), ((HB.out.cell (World.block_lt_of_cell? w _ hw688_3)).trans hw688_3)⟩ (fun hHeld => ?_); refine with_tabW spec_l6List.tab4 spec_l6List.bits4 (fun HT_ HW_ => ?_)
   generalize w21.drew = w22 at BK686 HB hx688_0 hx688_1 hx688_2 hx688_3 hHeld ⊢
   refine takeS_ 0 (some 12) ?_
   refine oneS_ 1 (some 13) (fun K hK => ?_)
   refine goes_ Tryz.func82 (by kernel_rfl) rfl #[.agg #[.string ((rd_T72 l0 x7_1).f0), .int .i64 ((rd_T72 l0 x7_1).f1), .int .i64 ((rd_T72 l0 x7_1).f2), .string ((rd_T72 l0 x7_1).f3)]] (by rfl) rfl rfl argsS_ ?_
   with_reducible refine (spec_GoodRecord.calls k1 ((rd_T72 l0 x7_1).f0) ((rd_T72 l0 x7_1).f1) ((rd_T72 l0 x7_1).f2) ((rd_T72 l0 x7_1).f3) true _ A5.out).mono ?_
   rintro e w23 ⟨rfl, hb⟩
   refine ⟨_, rfl, ?_⟩
   replace BK686 := a0_ (bkB_ BK686 hb)
   replace HB := a0_ (below_step bq1_ hb)
   (try clear hb)
   (try clear hb2)
   (try clear hk)
   (try clear hi)
   refine hK.out _ _ ⟨(blk_cell BK686.out 0).trans rfl, (blk_cell BK686.out 1).trans rfl, (blk_cell BK686.out 2).trans rfl, (blk_cell BK686.out 3).trans rfl, ((HB.out.cell (World.block_lt_of_cell? w _ hw688_0)).trans hw688_0), ((HB.out.cell (World.block_lt_of_cell? w _ hw688_1)).trans hw688_1), ((HB.out.cell (World.block_lt_of_cell? w _ hw688_2)).trans hw688_2), ((HB.out.cell (World.block_lt_of_cell? w _ hw688_3)).trans hw688_3)⟩ (fun hHeld => ?_)
   clear hK K
   refine normS_ ?_
   refine pureS_ 2 (some 14) ?_
   refine pureS_ 3 (some 15) ?_
   refine pureS_ 4 (some 16) ?_
   refine pureS_ 5 (some 17) ?_
   refine pureS_ 6 (some 18) ?_
   refine pureS_ 7 (some 19) ?_
   refine pureS_ 8 (some 20) ?_
   refine pureS_ 9 (some 21) ?_
   refine pureS_ 10 (some 22) ?_
   refine takeS_ 11 (some 23) ?_
   refine takeS_ 12 (some 24) ?_
   refine oneS_ 13 (some 25) (fun K hK => ?_)
   refine goes_ Tryz.func83 (by kernel_rfl) rfl #[.agg #[.string ((rd_T72 l0 (ji8)).f0), .int .i64 ((rd_T72 l0 (ji8)).f1), .int .i64 ((rd_T72 l0 (ji8)).f2), .string ((rd_T72 l0 (ji8)).f3)], .agg #[.string ((rd_T72 l0 x7_1).f0), .int .i64 ((rd_T72 l0 x7_1).f1), .int .i64 ((rd_T72 l0 x7_1).f2), .string ((rd_T72 l0 x7_1).f3)]] (by rfl) rfl rfl (by (try simp only [List.map_toArray, List.map_cons, List.map_nil]); first | done | (simp only [hji8]; rfl) | rfl | (simp only [List.length_drop, List.length_take]; rfl)) ?_
   with_reducible refine (spec_l3Compare.calls k1 ((rd_T72 l0 (ji8)).f0) ((rd_T72 l0 (ji8)).f1) ((rd_T72 l0 (ji8)).f2) ((rd_T72 l0 (ji8)).f3) ((rd_T72 l0 x7_1).f0) ((rd_T72 l0 x7_1).f1) ((rd_T72 l0 x7_1).f2) ((rd_T72 l0 x7_1).f3) t689 _ A11.out).mono ?_
   rintro e w24 ⟨rfl, hb⟩
   refine ⟨_, rfl, ?_⟩
   replace BK686 := a0_ (bkB_ BK686 hb)
   replace HB := a0_ (below_step bq1_ hb)
   (try clear hb)
   (try clear hb2)
   (try clear hk)
   (try clear hi)
   refine hK.out _ _ ⟨(blk_cell BK686.out 0).trans rfl, (blk_cell BK686.out 1).trans rfl, (blk_cell BK686.out 2).trans rfl, (blk_cell BK686.out 3).trans rfl, ((HB.out.cell (World.block_lt_of_cell? w _ hw688_0)).trans hw688_0), ((HB.out.cell (World.block_lt_of_cell? w _ hw688_1)).trans hw688_1), ((HB.out.cell (World.block_lt_of_cell? w _ hw688_2)).trans hw688_2), ((HB.out.cell (World.block_lt_of_cell? w _ hw688_3)).trans hw688_3)⟩ (fun hHeld => ?_)
   clear hK K
   refine normS_ ?_
   refine pureS_ 14 (some 26) ?_
   refine pureS_ 15 (some 27) ?_
   refine pureS_ 16 (some 28) ?_
   refine done_ (done_of HT_.out (by kernel_rfl)) ?_
   try go_wp2
   go_roundg k1
   case measure => have := HK1.out; omega
   case rel => exact ⟨(wrap64 (x7_1 + 1)), rs_, H', ⟨by have := HK1.out; omega⟩, ⟨bq1_⟩⟩
end Go.Proofs.YtkpkfallgjdkmaaGreatDoor.P
