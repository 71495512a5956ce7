/- FnExactSetsOf: part 18 of 28 of my texts for this claim, joined; the theorem stands in the last. Conditions: none beyond the statement's. -/
import Derived.Test.YtiegkjimpclmaaaGreatDoorMFnExactSetsOfx16
import Derived.Lib.AtoiTie
import Derived.Lib.ItoaMem
namespace Go.Proofs.YtiegkjimpclmaaaGreatDoor.P
open Go.RowKit Go.Proofs.YtiegkjimpclmaaaGreatDoorW.PrintWords Go.Proofs.YtiegkjimpclmaaaGreatDoorW.PrintLast Go.Proofs.YtiegkjimpclmaaaGreatDoorW.PrintMore
set_option linter.unusedVariables false
set_option linter.unusedSimpArgs false
def badD : ByteArray × Bool := ((⟨#[]⟩ : ByteArray), false)
def impl_DataBytes.l0 : Nat → List ByteArray → ByteArray → Int → Option (ByteArray × Bool)
 | 0, _, _, _ => none
 | k + 1, parts, out, i => if i < (parts.length : Int) then (if 0 ≤ i then ((impl_numberIn.f (rdOf ByteArray.empty parts i) 255).bind fun b => (if b.2 = true then (if (parts.length : Int) = 4 then ((impl_big.f k b.1 1).bind fun t => (if out.size + t.size ≤ 9223372036854775807 then impl_DataBytes.l0 k parts (out ++ t) (wrap64 (i + 1)) else none)) else some badD) else some badD)) else none) else some (out, true)
def dataTxt (k : Nat) (data : ByteArray) : Option (ByteArray × Bool) := if (data.size : Int) > 30 then some badD else (if (bytesOf data).any (fun c => decide (c < 32) || decide (c > 126)) = true then some badD else ((impl_big.f k (data.size : Int) 1).bind fun t => (if t.size + data.size ≤ 9223372036854775807 then some (t ++ data, true) else none)))
def dataMx (k : Nat) (data : ByteArray) : Option (ByteArray × Bool) := (strings_Cut.f data (⟨#[32]⟩ : ByteArray)).bind fun c => ((impl_numberIn.f c.1 65535).bind fun b => (if b.2 = true then ((impl_isTarget.f c.2.1).bind fun t => (if t = true then ((impl_big.f k b.1 2).bind fun g => ((impl_labelBytes.f k c.2.1).bind fun lb => (if g.size + lb.size ≤ 9223372036854775807 then (if g.size + lb.size + 1 ≤ 9223372036854775807 then some ((g ++ lb) ++ (⟨#[0]⟩ : ByteArray), true) else none) else none))) else some badD)) else some badD))
def dataNs (k : Nat) (data : ByteArray) : Option (ByteArray × Bool) := (impl_isTarget.f data).bind fun t => (if t = true then ((impl_labelBytes.f k data).bind fun lb => (if lb.size + 1 ≤ 9223372036854775807 then some (lb ++ (⟨#[0]⟩ : ByteArray), true) else none)) else some badD)
def dataSoa (k : Nat) (data : ByteArray) : Option (ByteArray × Bool) := (impl_numberIn.f data 4294967295).bind fun b => (if b.2 = true then ((impl_big.f k b.1 4).bind fun t => some (t, true)) else some badD)
def impl_DataBytes.f (k : Nat) (kind : Int) (data : ByteArray) : Option (ByteArray × Bool) :=
 if kind = 1 then ((strings_Split.f data (⟨#[46]⟩ : ByteArray)).bind fun parts => impl_DataBytes.l0 k parts (⟨#[]⟩ : ByteArray) 0)
 else (if kind = 2 ∨ kind = 5 then dataNs k data else (if kind = 6 then dataSoa k data else (if kind = 15 then dataMx k data else (if kind = 16 then dataTxt k data else some badD))))
theorem impl_DataBytes.mono_l : ∀ (k : Nat) (parts : List ByteArray) (out : ByteArray) (i : Int), LeO (impl_DataBytes.l0 k parts out i) (impl_DataBytes.l0 (k + 1) parts out i)
 | 0, parts, out, i => fun r h => by simp [impl_DataBytes.l0] at h
 | k + 1, parts, out, i => by
  have ih := impl_DataBytes.mono_l k
  unfold impl_DataBytes.l0
  repeat' first
   | (with_reducible exact ih _ _ _)
   | (with_reducible exact impl_big.mono _ _ _)
   | (with_reducible exact impl_labelBytes.mono _ _)
   | (with_reducible exact LeO.refl _)
   | (with_reducible exact LeO.none _)
   | (with_reducible refine LeO.ite ?_ ?_)
   | (with_reducible refine LeO.bind ?_ (fun _ => ?_))
   | exact ih _ _ _
   | exact impl_big.mono _ _ _
   | exact impl_labelBytes.mono _ _
   | exact LeO.none _
   | refine LeO.ite ?_ ?_
   | refine LeO.bind ?_ (fun _ => ?_)
theorem impl_DataBytes.mono : ∀ a0 a1 k, LeO (impl_DataBytes.f k a0 a1) (impl_DataBytes.f (k + 1) a0 a1) := by
 intro a0 a1 k
 unfold impl_DataBytes.f dataNs dataSoa dataMx dataTxt
 repeat' first
  | (with_reducible exact impl_DataBytes.mono_l _ _ _ _)
  | (with_reducible exact impl_big.mono _ _ _)
  | (with_reducible exact impl_labelBytes.mono _ _)
  | (with_reducible exact LeO.refl _)
  | (with_reducible exact LeO.none _)
  | (with_reducible refine LeO.ite ?_ ?_)
  | (with_reducible refine LeO.bind ?_ (fun _ => ?_))
  | exact impl_DataBytes.mono_l _ _ _ _
  | exact impl_big.mono _ _ _
  | exact impl_labelBytes.mono _ _
  | exact LeO.none _
  | refine LeO.ite ?_ ?_
  | refine LeO.bind ?_ (fun _ => ?_)
set_option maxHeartbeats 4000000 in
theorem data_ns (k : Nat) (kind : Int) (hk : kind = 2 ∨ kind = 5) (a1 : ByteArray) (r1 : ByteArray) (r2 : Bool) (w : World) (h : dataNs k a1 = some (r1, r2)) (hv : Vars w) :
 Calls Tryz.prog 31 #[.int .i64 kind, .string a1] w fun e w' => e = .returned (.tuple #[.string r1, .bool r2]) ∧ Below w.heap.size w w' := by
 unfold dataNs at h
 obtain ⟨t, ht, h⟩ := Option.bind_eq_some_iff.mp h
 have tc := fun W => impl_isTarget.calls a1 t W ht
 have hk1 : (kind == 1) = false := by rcases hk with rfl | rfl <;> rfl
 have hk2 : kind = 2 → (kind == 2) = true := fun e => by rw [e]; rfl
 cases t with
 | false =>
  obtain ⟨rfl, rfl⟩ := Prod.mk.inj (Option.some.inj h)
  clear h ht
  rcases hk with rfl | rfl
  · go_enter Tryz.func31, Tryz.ntmps31
    go_wp2_with (go_at_call 90; refine (tc _).mono ?_; rintro e w1 ⟨rfl, hb⟩)
    go_ret2
    exact ⟨rfl, hb⟩
  · go_enter Tryz.func31, Tryz.ntmps31
    go_wp2_with (go_at_call 90; refine (tc _).mono ?_; rintro e w1 ⟨rfl, hb⟩)
    go_ret2
    exact ⟨rfl, hb⟩
 | true =>
  rw [if_pos rfl] at h
  obtain ⟨lb, hlb, h⟩ := Option.bind_eq_some_iff.mp h
  have lc := fun W => impl_labelBytes.calls k a1 lb W hlb
  by_cases hs : lb.size + 1 ≤ 9223372036854775807
  · rw [if_pos hs] at h
    obtain ⟨rfl, rfl⟩ := Prod.mk.inj (Option.some.inj h)
    have hsa := eq_true hs
    have hsc : (9223372036854775807 < lb.size + 1) = False := eq_false (by omega)
    clear h ht hlb
    rcases hk with rfl | rfl
    · go_enter Tryz.func31, Tryz.ntmps31
      go_wp2_with (first | (go_at_call 90; refine (tc _).mono ?_; rintro e w1 ⟨rfl, hb⟩) | (go_at_call 91; refine (lc _).mono ?_; rintro e w2 ⟨rfl, hb2⟩; have hb3 := below_then hb hb.size hb2))
      go_ret2
      exact ⟨rfl, hb3⟩
    · go_enter Tryz.func31, Tryz.ntmps31
      go_wp2_with (first | (go_at_call 90; refine (tc _).mono ?_; rintro e w1 ⟨rfl, hb⟩) | (go_at_call 91; refine (lc _).mono ?_; rintro e w2 ⟨rfl, hb2⟩; have hb3 := below_then hb hb.size hb2))
      go_ret2
      exact ⟨rfl, hb3⟩
  · rw [if_neg hs] at h; cases h
set_option maxHeartbeats 4000000 in
theorem data_soa (k : Nat) (a1 : ByteArray) (r1 : ByteArray) (r2 : Bool) (w : World) (h : dataSoa k a1 = some (r1, r2)) (hv : Vars w) :
 Calls Tryz.prog 31 #[.int .i64 6, .string a1] w fun e w' => e = .returned (.tuple #[.string r1, .bool r2]) ∧ Below w.heap.size w w' := by
 unfold dataSoa at h
 obtain ⟨⟨b1, b2⟩, hb0, h⟩ := Option.bind_eq_some_iff.mp h
 replace h : (if b2 = true then ((impl_big.f k b1 4).bind fun t => some (t, true)) else some badD) = some (r1, r2) := h
 have nc := fun W (hbW : Below w.heap.size w W) => impl_numberIn.calls a1 4294967295 b1 b2 W hb0 (Vars.below hv hbW)
 clear hv
 cases b2 with
 | false =>
  obtain ⟨rfl, rfl⟩ := Prod.mk.inj (Option.some.inj h)
  clear h
  go_enter Tryz.func31, Tryz.ntmps31
  go_wp2_with (go_at_call 88; refine (nc _ (Below.refl _ _)).mono ?_; rintro e w1 ⟨rfl, hb⟩)
  go_ret2
  exact ⟨rfl, hb⟩
 | true =>
  rw [if_pos rfl] at h
  obtain ⟨g, hg, h⟩ := Option.bind_eq_some_iff.mp h
  have gc := fun W => impl_big.calls k b1 4 g W hg
  obtain ⟨rfl, rfl⟩ := Prod.mk.inj (Option.some.inj h)
  clear h
  go_enter Tryz.func31, Tryz.ntmps31
  go_wp2_with (first | (go_at_call 88; refine (nc _ (Below.refl _ _)).mono ?_; rintro e w1 ⟨rfl, hb⟩) | (go_at_call 89; refine (gc _).mono ?_; rintro e w2 ⟨rfl, hb2⟩; have hb3 := below_then hb hb.size hb2))
  go_ret2
  exact ⟨rfl, hb3⟩
set_option maxHeartbeats 4000000 in
theorem data_mx (k : Nat) (a1 : ByteArray) (r1 : ByteArray) (r2 : Bool) (w : World) (h : dataMx k a1 = some (r1, r2)) (hv : Vars w) :
 Calls Tryz.prog 31 #[.int .i64 15, .string a1] w fun e w' => e = .returned (.tuple #[.string r1, .bool r2]) ∧ Below w.heap.size w w' := by
 unfold dataMx at h
 obtain ⟨⟨c1, c2, c3⟩, hc, h⟩ := Option.bind_eq_some_iff.mp h
 obtain ⟨⟨b1, b2⟩, hb0, h⟩ := Option.bind_eq_some_iff.mp h
 replace h : (if b2 = true then ((impl_isTarget.f c2).bind fun t => (if t = true then ((impl_big.f k b1 2).bind fun g => ((impl_labelBytes.f k c2).bind fun lb => (if g.size + lb.size ≤ 9223372036854775807 then (if g.size + lb.size + 1 ≤ 9223372036854775807 then some ((g ++ lb) ++ (⟨#[0]⟩ : ByteArray), true) else none) else none))) else some badD)) else some badD) = some (r1, r2) := h
 have cutc := fun W => strings_Cut.calls a1 (⟨#[32]⟩ : ByteArray) c1 c2 c3 W hc
 have nc := fun W (hbW : Below w.heap.size w W) => impl_numberIn.calls c1 65535 b1 b2 W hb0 (Vars.below hv hbW)
 clear hv
 cases b2 with
 | false =>
  obtain ⟨rfl, rfl⟩ := Prod.mk.inj (Option.some.inj h)
  clear h
  go_enter Tryz.func31, Tryz.ntmps31
  go_wp2_with (first | (go_at_call 92; refine (cutc _).mono ?_; rintro e w0 ⟨rfl, nd, rfl⟩; have hb0' := pw_below_drewN (Below.refl w.heap.size w) nd) | (go_at_call 88; refine (nc _ hb0').mono ?_; rintro e w1 ⟨rfl, hb⟩; have hb1 := below_then hb0' hb0'.size hb))
  go_ret2
  exact ⟨rfl, hb1⟩
 | true =>
  rw [if_pos rfl] at h
  obtain ⟨t, ht, h⟩ := Option.bind_eq_some_iff.mp h
  have tc := fun W => impl_isTarget.calls c2 t W ht
  cases t with
  | false =>
   obtain ⟨rfl, rfl⟩ := Prod.mk.inj (Option.some.inj h)
   clear h
   go_enter Tryz.func31, Tryz.ntmps31
   go_wp2_with (first | (go_at_call 92; refine (cutc _).mono ?_; rintro e w0 ⟨rfl, nd, rfl⟩; have hb0' := pw_below_drewN (Below.refl w.heap.size w) nd) | (go_at_call 88; refine (nc _ hb0').mono ?_; rintro e w1 ⟨rfl, hb⟩; have hb1 := below_then hb0' hb0'.size hb) | (go_at_call 90; refine (tc _).mono ?_; rintro e w2 ⟨rfl, hbt⟩; have hb2 := below_then hb1 hb1.size hbt))
   go_ret2
   exact ⟨rfl, hb2⟩
  | true =>
   rw [if_pos rfl] at h
   obtain ⟨g, hg, h⟩ := Option.bind_eq_some_iff.mp h
   obtain ⟨lb, hlb, h⟩ := Option.bind_eq_some_iff.mp h
   have gc := fun W => impl_big.calls k b1 2 g W hg
   have lc := fun W => impl_labelBytes.calls k c2 lb W hlb
   by_cases hs : g.size + lb.size ≤ 9223372036854775807
   · rw [if_pos hs] at h
     by_cases hs2 : g.size + lb.size + 1 ≤ 9223372036854775807
     · rw [if_pos hs2] at h
       obtain ⟨rfl, rfl⟩ := Prod.mk.inj (Option.some.inj h)
       have hsa := eq_true hs
       have hsc : (9223372036854775807 < g.size + lb.size) = False := eq_false (by omega)
       have hsa2 := eq_true hs2
       have hsc2 : (9223372036854775807 < g.size + lb.size + 1) = False := eq_false (by omega)
       clear h
       go_enter Tryz.func31, Tryz.ntmps31
       go_wp2_with (first | (go_at_call 92; refine (cutc _).mono ?_; rintro e w0 ⟨rfl, nd, rfl⟩; have hb0' := pw_below_drewN (Below.refl w.heap.size w) nd) | (go_at_call 88; refine (nc _ hb0').mono ?_; rintro e w1 ⟨rfl, hb⟩; have hb1 := below_then hb0' hb0'.size hb) | (go_at_call 90; refine (tc _).mono ?_; rintro e w2 ⟨rfl, hbt⟩; have hb2 := below_then hb1 hb1.size hbt) | (go_at_call 89; refine (gc _).mono ?_; rintro e w3 ⟨rfl, hbg⟩; have hb3 := below_then hb2 hb2.size hbg) | (go_at_call 91; refine (lc _).mono ?_; rintro e w4 ⟨rfl, hbl⟩; have hb4 := below_then hb3 hb3.size hbl))
       go_ret2
       exact ⟨rfl, hb4⟩
     · rw [if_neg hs2] at h; cases h
   · rw [if_neg hs] at h; cases h
set_option maxHeartbeats 4000000 in
theorem data_other (kind : Int) (h1 : kind ≠ 1) (h2 : kind ≠ 2) (h5 : kind ≠ 5) (h6 : kind ≠ 6) (h15 : kind ≠ 15) (h16 : kind ≠ 16) (a1 : ByteArray) (w : World) :
 Calls Tryz.prog 31 #[.int .i64 kind, .string a1] w fun e w' => e = .returned (.tuple #[.string (⟨#[]⟩ : ByteArray), .bool false]) ∧ Below w.heap.size w w' := by
 have g1 : (kind == 1) = false := beq_eq_false_iff_ne.mpr h1
 have g2 : (kind == 2) = false := beq_eq_false_iff_ne.mpr h2
 have g5 : (kind == 5) = false := beq_eq_false_iff_ne.mpr h5
 have g6 : (kind == 6) = false := beq_eq_false_iff_ne.mpr h6
 have g15 : (kind == 15) = false := beq_eq_false_iff_ne.mpr h15
 have g16 : (kind == 16) = false := beq_eq_false_iff_ne.mpr h16
 clear h1 h2 h5 h6 h15 h16
 go_enter Tryz.func31, Tryz.ntmps31
 go_wp2
 go_ret2
 exact ⟨rfl, Below.refl _ _⟩
theorem data_pred (xs : List Int) (W : World) : PredB 94 #[] (.int .u8) (fun c => decide (c < 32) || decide (c > 126)) xs W := by
 intro x hx W' hW
 have e : impl_DataBytes_1.f x = some (decide (x < 32) || decide (x > 126)) := by
  unfold impl_DataBytes_1.f
  by_cases h : x < 32
  · rw [if_pos h, decide_eq_true h]; rfl
  · rw [if_neg h, decide_eq_false h]; rfl
 refine (impl_DataBytes_1.calls x _ W' e).mono ?_
 rintro e w' ⟨he, nd, rfl⟩
 exact ⟨he, pw_below_drewN (Below.refl _ _) nd⟩
theorem bytes_len (s : ByteArray) : (bytesOf s).length = s.size := by
 unfold bytesOf
 simp only [List.length_map]
 exact (size_len s).symm
set_option maxRecDepth 100000 in
set_option maxHeartbeats 4000000 in
theorem data_txt (k : Nat) (a1 : ByteArray) (r1 : ByteArray) (r2 : Bool) (w : World) (h : dataTxt k a1 = some (r1, r2)) :
 Calls Tryz.prog 31 #[.int .i64 16, .string a1] w fun e w' => e = .returned (.tuple #[.string r1, .bool r2]) ∧ Below w.heap.size w w' := by
 unfold dataTxt at h
 by_cases h30 : (a1.size : Int) > 30
 · rw [if_pos h30] at h
   obtain ⟨rfl, rfl⟩ := Prod.mk.inj (Option.some.inj h)
   have e1 : decide (30 < a1.size) = true := decide_eq_true (by omega)
   have e2 : decide ((30 : Int) < (a1.size : Int)) = true := decide_eq_true (by omega)
   clear h
   go_enter Tryz.func31, Tryz.ntmps31
   go_wp2
   go_ret2
   exact ⟨rfl, Below.refl _ _⟩
 · rw [if_neg h30] at h
   have e1 : decide (30 < a1.size) = false := decide_eq_false (by omega)
   have e2 : decide ((30 : Int) < (a1.size : Int)) = false := decide_eq_false (by omega)
   have eg : ∀ args w, (callFunc 94 args).run Tryz.prog w = .ok (.enter 94 args) w := enters_of Tryz.func94 (by kernel_rfl) rfl
   have cc0 := fun W c => contains_byte (some ⟨W.heap.size, 0, none⟩) c (bytesOf a1) 94 #[] (fun c => decide (c < 32) || decide (c > 126)) (Lib.bytesWorld W 5 a1) (by
    have hr := bytes_reads W 5 a1 (by omega)
    have := Kd.C_of_reads (d := (0 : Int)) (h1 := fun _ => rfl) hr
    rw [show (bytesOf a1).length = a1.size by rw [bytes_len]]
    exact this) eg (data_pred _ _)
   have hlen : (bytesOf a1).length = a1.size := by rw [bytes_len]
   rw [hlen] at cc0
   generalize hany : (bytesOf a1).any (fun c => decide (c < 32) || decide (c > 126)) = b at h cc0
   have e30 : (30 < a1.size) = False := eq_false (by omega)
   have kb := fun W => print_bytes (P := Tryz.prog) 9 43 5 Tryz.underlying9 Tryz.underlying43 Tryz.underlying5 a1 W
   cases b with
   | true =>
    rw [if_pos rfl] at h
    obtain ⟨rfl, rfl⟩ := Prod.mk.inj (Option.some.inj h)
    clear h h30 hlen hany
    go_enter Tryz.func31, Tryz.ntmps31
    go_wp2_with (go_at_call 93; refine (cc0 _ _).mono ?_; rintro e w1 ⟨rfl, hb⟩; have hb1 := below_then (Lib.bytesWorld_below w 5 a1) (Lib.bytesWorld_below w 5 a1).size hb)
    go_ret2
    exact ⟨rfl, hb1⟩
   | false =>
    rw [if_neg (by simp)] at h
    obtain ⟨g, hg, h⟩ := Option.bind_eq_some_iff.mp h
    have gc := fun W => impl_big.calls k (a1.size : Int) 1 g W hg
    by_cases hs : g.size + a1.size ≤ 9223372036854775807
    · rw [if_pos hs] at h
      obtain ⟨rfl, rfl⟩ := Prod.mk.inj (Option.some.inj h)
      have hsa := eq_true hs
      have hsc : (9223372036854775807 < g.size + a1.size) = False := eq_false (by omega)
      clear h h30 hlen hany
      go_enter Tryz.func31, Tryz.ntmps31
      go_wp2_with (first | (go_at_call 93; refine (cc0 _ _).mono ?_; rintro e w1 ⟨rfl, hb⟩; have hb1 := below_then (Lib.bytesWorld_below w 5 a1) (Lib.bytesWorld_below w 5 a1).size hb) | (go_at_call 89; refine (gc _).mono ?_; rintro e w2 ⟨rfl, hbg⟩; have hb2 := below_then hb1 hb1.size hbg))
      go_ret2
      exact ⟨rfl, hb2⟩
    · rw [if_neg hs] at h; cases h
set_option maxRecDepth 100000 in
set_option maxHeartbeats 4000000 in
theorem data_a (k : Nat) (a1 : ByteArray) (parts : List ByteArray) (r1 : ByteArray) (r2 : Bool) (w : World) (hp : strings_Split.f a1 (⟨#[46]⟩ : ByteArray) = some parts) (h : impl_DataBytes.l0 k parts (⟨#[]⟩ : ByteArray) 0 = some (r1, r2)) (hv : Vars w) :
 Calls Tryz.prog 31 #[.int .i64 1, .string a1] w fun e w' => e = .returned (.tuple #[.string r1, .bool r2]) ∧ Below w.heap.size w w' := by
 have sc := fun W => strings_Split.calls a1 (⟨#[46]⟩ : ByteArray) parts W hp
 have HV := Aside0.mk hv
 have H' := Aside0.mk h
 clear h hv hp
 go_enter Tryz.func31, Tryz.ntmps31
 go_wp2_with (go_at_call 87; refine (sc _).mono ?_; rintro e w1 ⟨v, rfl, hR, hbw⟩; have HO := Aside0.mk hR; have HB1 := Aside0.mk hbw; clear hR hbw; obtain ⟨A, c, rfl⟩ := Kd.R_slice HO.out)
 go_loopg [6, 26] k (fun kq v6 v26 wr => ∃ (out : ByteArray) (x : Int), v6 = .string out ∧ v26 = .int .i64 x ∧ Aside0 (impl_DataBytes.l0 kq parts out x = some (r1, r2)) ∧ Aside0 (kq ≤ k) ∧ Aside0 (Kd.C Kd.string wr A parts.length parts) ∧ Aside0 (Below w.heap.size w wr))
 case atStart => exact ⟨(⟨#[]⟩ : ByteArray), 0, rfl, rfl, H', ⟨Nat.le_refl _⟩, ⟨(Kd.R_reads' HO.out).2.2⟩, HB1⟩
 case round =>
  obtain ⟨out, x, rfl, rfl, HA, HK1, HC, BW⟩ := hrel
  cases gk with
  | zero => exact absurd HA.out (by simp [impl_DataBytes.l0])
  | succ k1 =>
   have H := HA.out
   clear HA H'
   simp only [impl_DataBytes.l0] at H
   by_cases c1 : x < (parts.length : Int)
   · rw [if_pos c1] at H
     by_cases c2 : 0 ≤ x
     · rw [if_pos c2] at H
       obtain ⟨⟨b1, b2⟩, hb0, H⟩ := Option.bind_eq_some_iff.mp H
       replace H : (if b2 = true then (if (parts.length : Int) = 4 then ((impl_big.f k1 b1 1).bind fun t => (if out.size + t.size ≤ 9223372036854775807 then impl_DataBytes.l0 k1 parts (out ++ t) (wrap64 (x + 1)) else none)) else some badD) else some badD) = some (r1, r2) := H
       have nc := fun W (hbW : Below w.heap.size w W) => impl_numberIn.calls (rdOf ByteArray.empty parts x) 255 b1 b2 W hb0 (Vars.below HV.out hbW)
       have c1b : decide (x < (parts.length : Int)) = true := decide_eq_true c1
       obtain ⟨ad, e0, hx⟩ := Kd.at_string HC.out x c2 c1
       cases e0
       have c1z := eq_true c1
       have c2z := eq_true c2
       generalize rdOf ByteArray.empty parts x = pv at hb0 nc hx
       clear hb0
       have hbw := BW.out
       cases b2 with
       | false =>
        obtain ⟨rfl, rfl⟩ := Prod.mk.inj (Option.some.inj H)
        clear H
        go_wp2_with (go_at_call 88; refine (nc _ hbw).mono ?_; rintro e w2 ⟨rfl, hb2⟩)
        go_ret2
        exact ⟨rfl, below_then BW.out BW.out.size hb2⟩
       | true =>
        rw [if_pos rfl] at H
        by_cases c4 : (parts.length : Int) = 4
        · rw [if_pos c4] at H
          obtain ⟨g, hg, H⟩ := Option.bind_eq_some_iff.mp H
          have gc := fun W => impl_big.calls k1 b1 1 g W hg
          have c4a : ((parts.length : Int) == 4) = true := by rw [c4]; rfl
          have c4b : (parts.length == 4) = true := by rw [show parts.length = 4 by omega]; rfl
          have c4c : ((parts.length : Int) != 4) = false := by rw [c4]; rfl
          by_cases hs : out.size + g.size ≤ 9223372036854775807
          · rw [if_pos hs] at H
            have hsa := eq_true hs
            have hsc : (9223372036854775807 < out.size + g.size) = False := eq_false (by omega)
            have HN := Aside0.mk H
            clear H hg c4 hs
            go_wp2_with (first | (go_at_call 88; refine (nc _ hbw).mono ?_; rintro e w2 ⟨rfl, hb2⟩) | (go_at_call 89; refine (gc _).mono ?_; rintro e w3 ⟨rfl, hb3⟩; have hb4 := below_then hb2 hb2.size hb3))
            go_roundg k1
            case measure => have := HK1.out; omega
            case rel => exact ⟨out ++ g, wrap64 (x + 1), rfl, rfl, HN, ⟨by have := HK1.out; omega⟩, ⟨Kd.C_below HC.out hb4⟩, ⟨below_then BW.out BW.out.size hb4⟩⟩
          · rw [if_neg hs] at H; cases H
        · rw [if_neg c4] at H
          obtain ⟨rfl, rfl⟩ := Prod.mk.inj (Option.some.inj H)
          have c4a : ((parts.length : Int) == 4) = false := beq_eq_false_iff_ne.mpr c4
          have c4b : (parts.length == 4) = false := beq_eq_false_iff_ne.mpr (by omega)
          have c4c : ((parts.length : Int) != 4) = true := by rw [bne, c4a]; rfl
          clear H c4
          go_wp2_with (go_at_call 88; refine (nc _ hbw).mono ?_; rintro e w2 ⟨rfl, hb2⟩)
          go_ret2
          exact ⟨rfl, below_then BW.out BW.out.size hb2⟩
     · rw [if_neg c2] at H; cases H
   · rw [if_neg c1] at H
     have c1b : decide (x < (parts.length : Int)) = false := decide_eq_false c1
     obtain ⟨rfl, rfl⟩ := Prod.mk.inj (Option.some.inj H)
     clear H
     go_wp2
     go_ret2
     exact ⟨rfl, BW.out⟩
theorem impl_DataBytes.calls (k : Nat) (a0 : Int) (a1 : ByteArray) (r1 : ByteArray) (r2 : Bool) (w : World) (h : impl_DataBytes.f k a0 a1 = some (r1, r2))
 (hv : Vars w := by first | assumption | (refine Vars.below (Aside0.out (by assumption)) ?_; repeat (first | (with_reducible first | exact Below.refl _ _ | exact Aside0.out (by assumption) | apply below_alloc | apply pw_below_drewN | apply below_drew1) | exact Aside0.out (by assumption)))) :
 Calls Tryz.prog 31 #[.int .i64 a0, .string a1] w fun e w' => e = .returned (.tuple #[.string r1, .bool r2]) ∧ Below w.heap.size w w' := by
 unfold impl_DataBytes.f at h
 by_cases c1 : a0 = 1
 · rw [if_pos c1] at h
   subst c1
   obtain ⟨parts, hp, h⟩ := Option.bind_eq_some_iff.mp h
   exact data_a k a1 parts r1 r2 w hp h hv
 · rw [if_neg c1] at h
   by_cases c2 : a0 = 2 ∨ a0 = 5
   · rw [if_pos c2] at h
     exact data_ns k a0 c2 a1 r1 r2 w h hv
   · rw [if_neg c2] at h
     by_cases c6 : a0 = 6
     · rw [if_pos c6] at h
       subst c6
       exact data_soa k a1 r1 r2 w h hv
     · rw [if_neg c6] at h
       by_cases c15 : a0 = 15
       · rw [if_pos c15] at h
         subst c15
         exact data_mx k a1 r1 r2 w h hv
       · rw [if_neg c15] at h
         by_cases c16 : a0 = 16
         · rw [if_pos c16] at h
           subst c16
           exact data_txt k a1 r1 r2 w h
         · rw [if_neg c16] at h
           obtain ⟨rfl, rfl⟩ := Prod.mk.inj (Option.some.inj h)
           exact data_other a0 c1 (fun e => c2 (.inl e)) (fun e => c2 (.inr e)) c6 c15 c16 a1 w
end Go.Proofs.YtiegkjimpclmaaaGreatDoor.P
namespace Go.Proofs.YtiegkjimpclmaaaGreatDoor.Pure
open Go.RowKit Go.Proofs.YtiegkjimpclmaaaGreatDoor.P Go.Proofs.YtiegkjimpclmaaaGreatDoorW.PrintWords Go.Proofs.YtiegkjimpclmaaaGreatDoorW.PrintLast Go.Proofs.YtiegkjimpclmaaaGreatDoorW.PrintMore
set_option linter.unusedVariables false
set_option linter.unusedSimpArgs false
def digB (b : UInt8) : Bool := decide (48 ≤ b.toNat ∧ b.toNat ≤ 57)
def valF (a : Nat) (l : List UInt8) : Nat := l.foldl (fun a b => a * 10 + (b.toNat - 48)) a
def valL (l : List UInt8) : Nat := valF 0 l
def canL (l : List UInt8) : Bool := decide (1 ≤ l.length ∧ l.length ≤ 10) && l.all digB && (decide (l.length = 1) || decide (l.head? ≠ some 48))
theorem valF_app (a : Nat) (p q : List UInt8) : valF a (p ++ q) = valF (valF a p) q := by unfold valF; rw [List.foldl_append]
theorem valF_one (a : Nat) (b : UInt8) : valF a [b] = a * 10 + (b.toNat - 48) := rfl
theorem decFrom_val : ∀ (l : List UInt8) (a : Nat), l.all digB = true → Lib.decFrom a l = some (valF a l)
 | [], a, _ => rfl
 | b :: r, a, h => by
  rw [List.all_cons, Bool.and_eq_true] at h
  have hb : 48 ≤ b.toNat ∧ b.toNat ≤ 57 := of_decide_eq_true h.1
  unfold Lib.decFrom Lib.digitVal
  rw [if_pos hb]
  exact decFrom_val r _ h.2
theorem valF_lt : ∀ (l : List UInt8) (a : Nat), l.all digB = true → valF a l < (a + 1) * 10 ^ l.length
 | [], a, _ => by show a < (a + 1) * 10 ^ 0; omega
 | b :: r, a, h => by
  rw [List.all_cons, Bool.and_eq_true] at h
  have hb : 48 ≤ b.toNat ∧ b.toNat ≤ 57 := of_decide_eq_true h.1
  have ih := valF_lt r (a * 10 + (b.toNat - 48)) h.2
  show valF (a * 10 + (b.toNat - 48)) r < _
  rw [List.length_cons, Nat.pow_succ]
  have h1 : (a * 10 + (b.toNat - 48) + 1) * 10 ^ r.length ≤ ((a + 1) * 10) * 10 ^ r.length := Nat.mul_le_mul_right _ (by omega)
  have h2 : ((a + 1) * 10) * 10 ^ r.length = (a + 1) * (10 ^ r.length * 10) := by rw [Nat.mul_assoc, Nat.mul_comm 10]
  omega
theorem digits_all : ∀ (n u : Nat), u ≤ n → (Lib.decDigits u).all digB = true ∧ valL (Lib.decDigits u) = u ∧ 1 ≤ (Lib.decDigits u).length ∧ (1 ≤ u → (Lib.decDigits u).head? ≠ some 48)
 | n, u, hu => by
  unfold Lib.decDigits
  by_cases h : u < 10
  · rw [dif_pos h]
    have hb : (UInt8.ofNat (48 + u)).toNat = 48 + u := by rw [UInt8.toNat_ofNat']; omega
    refine ⟨?_, ?_, by simp, fun h1 => ?_⟩
    · rw [List.all_cons, List.all_nil, Bool.and_true]; unfold digB; rw [hb]; exact decide_eq_true (by omega)
    · show 0 * 10 + ((UInt8.ofNat (48 + u)).toNat - 48) = u; rw [hb]; omega
    · intro e
      have e2 := congrArg UInt8.toNat (Option.some.inj e)
      rw [hb] at e2
      have : (48 : UInt8).toNat = 48 := rfl
      omega
  · rw [dif_neg h]
    match n, hu with
    | 0, hu => omega
    | n + 1, hu =>
     obtain ⟨g1, g2, g3, g4⟩ := digits_all n (u / 10) (by omega)
     have hb : (UInt8.ofNat (48 + u % 10)).toNat = 48 + u % 10 := by rw [UInt8.toNat_ofNat']; omega
     refine ⟨?_, ?_, by rw [List.length_append]; omega, fun _ => ?_⟩
     · rw [List.all_append, g1, Bool.true_and, List.all_cons, List.all_nil, Bool.and_true]; unfold digB; rw [hb]; exact decide_eq_true (by omega)
     · unfold valL at g2 ⊢; rw [valF_app, g2, valF_one, hb]; omega
     · have g5 := g4 (by omega)
       cases hd : Lib.decDigits (u / 10) with
       | nil => rw [hd] at g3; simp at g3
       | cons x r => rw [hd] at g5; simpa using g5
theorem digits_back : ∀ (n : Nat) (l : List UInt8), l.length ≤ n → l ≠ [] → l.all digB = true → (l.length = 1 ∨ l.head? ≠ some 48) → Lib.decDigits (valL l) = l
 | n, l, hn, hne, ha, hh => by
  rcases List.eq_nil_or_concat l with rfl | ⟨p, b, rfl⟩
  · exact absurd rfl hne
  · rw [List.concat_eq_append] at *
    rw [List.all_append, Bool.and_eq_true, List.all_cons, Bool.and_eq_true] at ha
    have hb : 48 ≤ b.toNat ∧ b.toNat ≤ 57 := of_decide_eq_true ha.2.1
    have hv : valL (p ++ [b]) = valL p * 10 + (b.toNat - 48) := by unfold valL; rw [valF_app, valF_one]
    have hbb : UInt8.ofNat (48 + (b.toNat - 48)) = b := by rw [show 48 + (b.toNat - 48) = b.toNat by omega]; exact UInt8.ofNat_toNat
    rw [hv]
    by_cases hp : p = []
    · subst hp
      unfold Lib.decDigits
      rw [show valL [] = 0 from rfl, dif_pos (by omega), Nat.zero_mul, Nat.zero_add, hbb]
      rfl
    · match n, hn with
      | 0, hn => simp at hn
      | n + 1, hn =>
       have hpl := List.length_pos_iff.2 hp
       have hhp : p.head? ≠ some 48 := by
        rcases hh with hh | hh
        · rw [List.length_append] at hh; simp at hh; exact absurd hh hp
        · cases p with
          | nil => exact absurd rfl hp
          | cons x r => simpa using hh
       have ih := digits_back n p (by simp at hn; omega) hp ha.1 (.inr hhp)
       have hpos : 1 ≤ valL p := by
        cases p with
        | nil => exact absurd rfl hp
        | cons x r =>
         rw [List.all_cons, Bool.and_eq_true] at ha
         have hx : 48 ≤ x.toNat ∧ x.toNat ≤ 57 := of_decide_eq_true ha.1.1
         have hx2 : x.toNat ≠ 48 := fun e => hhp (by show some x = some 48; rw [show x = 48 from UInt8.toNat_inj.1 e])
         have mono : ∀ (r : List UInt8) (a : Nat), a ≤ valF a r := by
          intro r
          induction r with
          | nil => intro a; exact Nat.le_refl _
          | cons y r ihr => intro a; have := ihr (a * 10 + (y.toNat - 48)); show a ≤ valF (a * 10 + (y.toNat - 48)) r; omega
         have := mono r (0 * 10 + (x.toNat - 48))
         show 1 ≤ valF (0 * 10 + (x.toNat - 48)) r
         omega
       unfold Lib.decDigits
       rw [dif_neg (by omega), show (valL p * 10 + (b.toNat - 48)) / 10 = valL p by omega, show (valL p * 10 + (b.toNat - 48)) % 10 = b.toNat - 48 by omega, ih, hbb]
theorem can_val {l : List UInt8} (h : canL l = true) : valL l < 10000000000 := by
 unfold canL at h
 simp only [Bool.and_eq_true, decide_eq_true_eq] at h
 have h1 := valF_lt l 0 h.1.2
 have h2 : 10 ^ l.length ≤ 10 ^ 10 := Nat.pow_le_pow_right (by omega) h.1.1.2
 unfold valL
 omega
theorem digits_many : ∀ (k u : Nat), k + 1 < Lib.nDigits u → 10 ^ (k + 1) ≤ u
 | 0, u, h => by
  by_cases hu : u < 10
  · rw [Lib.nDigits_small hu] at h; omega
  · omega
 | k + 1, u, h => by
  by_cases hu : u < 10
  · rw [Lib.nDigits_small hu] at h; omega
  · rw [Lib.nDigits_big hu] at h
    have ih := digits_many k (u / 10) (by omega)
    rw [Nat.pow_succ]
    omega
theorem number_eq (s : ByteArray) (most : Int) (hs : s.size ≤ 281474976710656) (h0 : 0 ≤ most) (h1 : most < 9999999999) : ∃ v, impl_numberIn.f s most = some (v, canL s.data.toList && decide ((valL s.data.toList : Int) ≤ most)) ∧ ((canL s.data.toList && decide ((valL s.data.toList : Int) ≤ most)) = true → v = (valL s.data.toList : Int)) := by
 unfold impl_numberIn.f
 rw [if_pos hs, Lib.toList_data]
 generalize hl : s.data.toList = l
 by_cases hc : canL l = true
 · have hc' := hc
   unfold canL at hc'
   simp only [Bool.and_eq_true, Bool.or_eq_true, decide_eq_true_eq] at hc'
   have hv := can_val hc
   have hne : l ≠ [] := by rintro rfl; simp at hc'
   have hat : Lib.atoiAll l = .ok (valL l : Int) := by
    rw [Lib.atoiAll_short l (by omega)]
    cases l with
    | nil => exact absurd rfl hne
    | cons b r =>
     have ha := hc'.1.2
     rw [List.all_cons, Bool.and_eq_true] at ha
     have hb : 48 ≤ b.toNat ∧ b.toNat ≤ 57 := of_decide_eq_true ha.1
     have n45 : (b == 45) = false := beq_eq_false_iff_ne.mpr fun e => by rw [e] at hb; have : (45 : UInt8).toNat = 45 := rfl; omega
     have n43 : (b == 43) = false := beq_eq_false_iff_ne.mpr fun e => by rw [e] at hb; have : (43 : UInt8).toNat = 43 := rfl; omega
     unfold Lib.atoi Lib.decNat
     show Lib.NumEnd.ofOption (if (b == 45) = true then _ else (if (b == 43) = true then _ else Option.map (fun (m : Nat) => (m : Int)) (if (b :: r).isEmpty = true then none else Lib.decFrom 0 (b :: r)))) = _
     rw [n45, n43, if_neg (by simp), if_neg (by simp), if_neg (by simp), decFrom_val _ 0 hc'.1.2]
     rfl
   have hit : Lib.itoa (valL l : Int) = l := by
    rw [Lib.itoa_nonneg]
    exact digits_back l.length l (Nat.le_refl _) hne hc'.1.2 hc'.2
   rw [hat]
   refine ⟨(valL l : Int), ?_, fun _ => rfl⟩
   simp only [hit, beq_self_eq_true, Bool.and_true, hc, Bool.true_and]
   congr 2
   rw [decide_eq_decide]
   omega
 · rw [Bool.eq_false_iff.mpr hc, Bool.false_and]
   cases ha : Lib.atoiAll l
   · next v =>
     refine ⟨v, ?_, fun h => by cases h⟩
     show some (v, decide (0 ≤ v ∧ v ≤ most) && (Lib.itoa v == l)) = some (v, false)
     congr 2
     rw [Bool.and_eq_false_iff]
     by_cases hv : 0 ≤ v ∧ v ≤ most
     · right
       rw [beq_eq_false_iff_ne]
       intro e
       apply hc
       obtain ⟨u, rfl⟩ : ∃ u : Nat, v = (u : Int) := ⟨v.toNat, by omega⟩
       rw [Lib.itoa_nonneg] at e
       obtain ⟨g1, g2, g3, g4⟩ := digits_all u u (Nat.le_refl _)
       have hlen : (Lib.decDigits u).length ≤ 10 := by
        rw [Lib.decDigits_length]
        by_cases h10 : u < 10
        · rw [Lib.nDigits_small h10]; omega
        · by_cases hbig : Lib.nDigits u ≤ 10
          · exact hbig
          · have := digits_many 9 u (by omega)
            omega
       rw [← e]
       unfold canL
       rw [g1, decide_eq_true (by omega), Bool.true_and, Bool.true_and, Bool.or_eq_true]
       by_cases hu : 1 ≤ u
       · exact .inr (decide_eq_true (g4 hu))
       · left
         obtain rfl : u = 0 := by omega
         rw [Lib.decDigits_one (by omega)]
         rfl
     · left
       exact decide_eq_false hv
   · exact ⟨0, rfl, fun h => by cases h⟩
   · exact ⟨_, rfl, fun h => by cases h⟩
def numS (l : List UInt8) : Int := if canL l = true then (valL l : Int) else -1
theorem int_loop (s : ByteArray) (hs : s.size ≤ 10) : ∀ (m i a : Nat), i + m = s.size → a = valL (s.data.toList.take i) → (s.data.toList.take i).all digB = true →
 Ev (fun k => spec_l1Int.l0 k s (a : Int) (i : Int)) (if s.data.toList.all digB = true then (valL s.data.toList : Int) else -1)
 | 0, i, a, him, ha, hd => by
  rw [List.take_of_length_le (by rw [← size_len]; omega)] at ha hd
  rw [if_pos hd, ← ha]
  refine Ev.step (f := fun _ => some (a : Int)) (fun k => ?_) (Ev.now _)
  show spec_l1Int.l0 (k + 1) s (a : Int) (i : Int) = _
  conv => lhs; unfold spec_l1Int.l0
  rw [if_neg (by omega)]
 | m + 1, i, a, him, ha, hd => by
  have hi : i < s.data.toList.length := by rw [← size_len]; omega
  have hbt := bt_list s i hi
  have htk : s.data.toList.take (i + 1) = s.data.toList.take i ++ [s.data.toList[i]] := by rw [List.take_add_one, List.getElem?_eq_getElem hi]; rfl
  have halt : a < 10 ^ 10 := by
   have := valF_lt _ 0 hd
   have h2 : 10 ^ (s.data.toList.take i).length ≤ 10 ^ 10 := Nat.pow_le_pow_right (by omega) (by rw [List.length_take]; omega)
   rw [ha]
   unfold valL
   omega
  by_cases hb : digB s.data.toList[i] = true
  · have hb' : 48 ≤ (s.data.toList[i]).toNat ∧ (s.data.toList[i]).toNat ≤ 57 := of_decide_eq_true hb
    have ih := int_loop s hs m (i + 1) (a * 10 + ((s.data.toList[i]).toNat - 48)) (by omega) (by rw [htk]; unfold valL at ha ⊢; rw [valF_app, ← ha, valF_one]) (by rw [htk, List.all_append, hd, Bool.true_and, List.all_cons, hb]; rfl)
    refine Ev.step (fun k => ?_) ih
    show spec_l1Int.l0 (k + 1) s (a : Int) (i : Int) = _
    conv => lhs; unfold spec_l1Int.l0
    have hw : wrap64 ((wrap64 (10 * (a : Int))) + ((((s.data.toList[i]).toNat : Int) - 48) % 256)) = ((a * 10 + ((s.data.toList[i]).toNat - 48) : Nat) : Int) := by
     have h1 : wrap64 (10 * (a : Int)) = 10 * (a : Int) := by unfold wrap64; omega
     rw [h1]
     unfold wrap64
     omega
    rw [if_pos (by omega), if_pos (by omega), hbt, if_neg (by omega), if_neg (by omega), hw, w64n (by omega)]
  · have hall : s.data.toList.all digB = false := by
     rw [List.all_eq_false]
     exact ⟨_, List.getElem_mem hi, hb⟩
    rw [hall, if_neg (by simp)]
    have hb' : ¬ (48 ≤ (s.data.toList[i]).toNat ∧ (s.data.toList[i]).toNat ≤ 57) := of_decide_eq_false (Bool.eq_false_iff.mpr hb)
    refine Ev.step (f := fun _ => some (-1)) (fun k => ?_) (Ev.now _)
    show spec_l1Int.l0 (k + 1) s (a : Int) (i : Int) = _
    conv => lhs; unfold spec_l1Int.l0
    rw [if_pos (by omega), if_pos (by omega), hbt]
    by_cases h1 : ((s.data.toList[i]).toNat : Int) < 48
    · rw [if_pos h1]
    · rw [if_neg h1, if_pos (by omega)]
theorem int_ev (s : ByteArray) (hs : s.size < 4611686018427387904) : Ev (fun k => spec_l1Int.f k s) (numS s.data.toList) := by
 have hj : Ev (fun k => spec_l1Int.j0 k s true) (-1) := Ev.step (f := fun _ => some (-1)) (fun k => rfl) (Ev.now _)
 have hin : spec_l1In.f (s.size : Int) 1 10 = some (decide (1 ≤ (s.size : Int) ∧ (s.size : Int) ≤ 10)) := within_spec _ _ _
 by_cases h1 : 1 ≤ (s.size : Int) ∧ (s.size : Int) ≤ 10
 · have hlen : 0 < s.data.toList.length := by rw [← size_len]; omega
   have hbt := bt_list s 0 hlen
   have hmain : ∀ ld : Bool, ld = decide (s.data.toList.head? = some 48 ∧ s.size > 1) → Ev (fun k => spec_l1Int.j0 k s ld) (numS s.data.toList) := by
    intro ld hld
    cases ld with
    | true =>
     have h2 := of_decide_eq_true hld.symm
     have : canL s.data.toList = false := by
      unfold canL
      rw [decide_eq_false (show ¬ s.data.toList.length = 1 by rw [← size_len]; omega), decide_eq_false (show ¬ s.data.toList.head? ≠ some 48 from fun h => h h2.1), Bool.or_false, Bool.and_false]
     unfold numS
     rw [this, if_neg (by simp)]
     exact hj
    | false =>
     have h2 := of_decide_eq_false hld.symm
     have hl := int_loop s (by omega) s.size 0 0 (by omega) rfl rfl
     have e : (if s.data.toList.all digB = true then (valL s.data.toList : Int) else -1) = numS s.data.toList := by
      unfold numS canL
      rw [decide_eq_true (show 1 ≤ s.data.toList.length ∧ s.data.toList.length ≤ 10 by rw [← size_len]; omega), Bool.true_and]
      have h3 : (decide (s.data.toList.length = 1) || decide (s.data.toList.head? ≠ some 48)) = true := by
       rw [Bool.or_eq_true]
       by_cases h4 : s.data.toList.head? = some 48
       · exact .inl (decide_eq_true (by rw [← size_len]; have : ¬ s.size > 1 := fun h5 => h2 ⟨h4, h5⟩; omega))
       · exact .inr (decide_eq_true h4)
      rw [h3, Bool.and_true]
     rw [← e]
     exact Ev.step (fun k => rfl) hl
   have hhead : s.data.toList.head? = some (s.data.toList[0]) := by rw [List.head?_eq_getElem?, List.getElem?_eq_getElem hlen]
   refine Ev.congr (f := fun k => spec_l1Int.j0 k s (decide (s.data.toList.head? = some 48 ∧ s.size > 1))) (fun k => ?_) (hmain _ rfl)
   unfold spec_l1Int.f
   rw [hin, Option.bind_some, decide_eq_true h1, if_pos rfl, if_pos (by omega)]
   have hb0 : bt s 0 = ((s.data.toList[0]).toNat : Int) := hbt
   rw [hb0, hhead]
   by_cases h48 : s.data.toList[0] = 48
   · rw [if_pos (by rw [h48]; rfl)]
     congr 1
     rw [decide_eq_decide]
     constructor
     · intro h; exact ⟨by rw [h48], by omega⟩
     · intro h; omega
   · rw [if_neg (fun h => h48 (UInt8.toNat_inj.1 (by have : (48 : UInt8).toNat = 48 := rfl; omega)))]
     congr 1
     rw [eq_comm, decide_eq_false_iff_not]
     rintro ⟨h, _⟩
     exact h48 (Option.some.inj h)
 · have : canL s.data.toList = false := by
    unfold canL
    rw [decide_eq_false (show ¬ (1 ≤ s.data.toList.length ∧ s.data.toList.length ≤ 10) by rw [← size_len]; omega)]
    rfl
   unfold numS
   rw [this, if_neg (by simp)]
   refine Ev.congr (fun k => ?_) hj
   unfold spec_l1Int.f
   rw [hin, Option.bind_some, decide_eq_false h1, if_neg (by simp)]
end Go.Proofs.YtiegkjimpclmaaaGreatDoor.Pure
namespace Go.Proofs.YtiegkjimpclmaaaGreatDoor.Pure
open Go.RowKit Go.Proofs.YtiegkjimpclmaaaGreatDoor.P Go.Proofs.YtiegkjimpclmaaaGreatDoorW.PrintWords Go.Proofs.YtiegkjimpclmaaaGreatDoorW.PrintLast
set_option linter.unusedVariables false
set_option linter.unusedSimpArgs false
theorem specGood_ev (s : ByteArray) (hs : s.size < 549755813888) : Ev (fun k => spec_GoodName.f k s) (goodL s.data.toList) := by
 obtain ⟨r, h1, h2⟩ := good_ev s hs
 refine Ev.congr (f := fun k => (spec_l1Labels.f k s).bind fun bt => some bt.2) (fun k => rfl) (Ev.bind h1 ?_)
 rw [h2]
 exact Ev.now _
theorem good_size {l : List UInt8} (h : goodL l = true) : l.length ≤ 60 := by
 unfold goodL at h
 simp at h
 exact h.1
end Go.Proofs.YtiegkjimpclmaaaGreatDoor.Pure
