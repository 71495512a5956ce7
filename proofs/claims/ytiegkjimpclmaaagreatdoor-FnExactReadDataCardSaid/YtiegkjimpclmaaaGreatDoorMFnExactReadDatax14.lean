/- FnExactReadData: part 15 of 26 of my texts for this claim, joined; the theorem stands in the last. Conditions: none beyond the statement's. -/
import Derived.Test.YtiegkjimpclmaaaGreatDoorMFnExactReadDatax12
import Derived.Test.YtiegkjimpclmaaaGreatDoorMFnExactReadDatax13
import Derived.Test.YtiegkjimpclmaaaGreatDoorMFnExactReadDatax0
import Derived.Test.YtiegkjimpclmaaaGreatDoorMFnExactReadDatax5
import Derived.Shelf.Strings.OnBuilder
import Derived.Test.YtiegkjimpclmaaaGreatDoorProg
-- HData
/- impl.DataBytes: its walk by hand, over numberIn, isTarget, labelBytes, big and slices.ContainsFunc. Conditions: the library's variables hold what the row lists. -/
namespace Go.Proofs.YtiegkjimpclmaaaGreatDoor.P
open Go.RowKit Go.Proofs.YtiegkjimpclmaaaGreatDoorW.PrintWords Go.Proofs.YtiegkjimpclmaaaGreatDoorW.PrintLast Go.Proofs.YtiegkjimpclmaaaGreatDoorW.PrintMore
set_option linter.unusedVariables false
set_option linter.unusedSimpArgs false
def badD : ByteArray × Bool := ((⟨#[]⟩ : ByteArray), false)
def impl_DataBytes.l0 : Nat → List ByteArray → ByteArray → Int → Option (ByteArray × Bool)
  | 0, _, _, _ => none
  | k + 1, parts, out, i => if i < (parts.length : Int) then (if 0 ≤ i then ((impl_numberIn.f (rdOf ByteArray.empty parts i) 255).bind fun b => (if b.2 = true then (if (parts.length : Int) = 4 then ((impl_big.f k b.1 1).bind fun t => (if out.size + t.size ≤ 9223372036854775807 then impl_DataBytes.l0 k parts (out ++ t) (wrap64 (i + 1)) else none)) else some badD) else some badD)) else none) else some (out, true)
def dataTxt (k : Nat) (data : ByteArray) : Option (ByteArray × Bool) := if (data.size : Int) > 30 then some badD else (if (bytesOf data).any (fun c => decide (c < 32) || decide (c > 126)) = true then some badD else ((impl_big.f k (data.size : Int) 1).bind fun t => (if t.size + data.size ≤ 9223372036854775807 then some (t ++ data, true) else none)))
def dataMx (k : Nat) (data : ByteArray) : Option (ByteArray × Bool) := (strings_Cut.f data (⟨#[32]⟩ : ByteArray)).bind fun c => ((impl_numberIn.f c.1 65535).bind fun b => (if b.2 = true then ((impl_isTarget.f c.2.1).bind fun t => (if t = true then ((impl_big.f k b.1 2).bind fun g => ((impl_labelBytes.f k c.2.1).bind fun lb => (if g.size + lb.size ≤ 9223372036854775807 then (if g.size + lb.size + 1 ≤ 9223372036854775807 then some ((g ++ lb) ++ (⟨#[0]⟩ : ByteArray), true) else none) else none))) else some badD)) else some badD))
def dataNs (k : Nat) (data : ByteArray) : Option (ByteArray × Bool) := (impl_isTarget.f data).bind fun t => (if t = true then ((impl_labelBytes.f k data).bind fun lb => (if lb.size + 1 ≤ 9223372036854775807 then some (lb ++ (⟨#[0]⟩ : ByteArray), true) else none)) else some badD)
def dataSoa (k : Nat) (data : ByteArray) : Option (ByteArray × Bool) := (impl_numberIn.f data 4294967295).bind fun b => (if b.2 = true then ((impl_big.f k b.1 4).bind fun t => some (t, true)) else some badD)
def impl_DataBytes.f (k : Nat) (kind : Int) (data : ByteArray) : Option (ByteArray × Bool) :=
  if kind = 1 then ((strings_Split.f data (⟨#[46]⟩ : ByteArray)).bind fun parts => impl_DataBytes.l0 k parts (⟨#[]⟩ : ByteArray) 0)
  else (if kind = 2 ∨ kind = 5 then dataNs k data else (if kind = 6 then dataSoa k data else (if kind = 15 then dataMx k data else (if kind = 16 then dataTxt k data else some badD))))
theorem impl_DataBytes.mono_l : ∀ (k : Nat) (parts : List ByteArray) (out : ByteArray) (i : Int), LeO (impl_DataBytes.l0 k parts out i) (impl_DataBytes.l0 (k + 1) parts out i)
  | 0, parts, out, i => fun r h => by simp [impl_DataBytes.l0] at h
  | k + 1, parts, out, i => by
    have ih := impl_DataBytes.mono_l k
    unfold impl_DataBytes.l0
    repeat' first
      | (with_reducible exact ih _ _ _)
      | (with_reducible exact impl_big.mono _ _ _)
      | (with_reducible exact impl_labelBytes.mono _ _)
      | (with_reducible exact LeO.refl _)
      | (with_reducible exact LeO.none _)
      | (with_reducible refine LeO.ite ?_ ?_)
      | (with_reducible refine LeO.bind ?_ (fun _ => ?_))
      | exact ih _ _ _
      | exact impl_big.mono _ _ _
      | exact impl_labelBytes.mono _ _
      | exact LeO.none _
      | refine LeO.ite ?_ ?_
      | refine LeO.bind ?_ (fun _ => ?_)
theorem impl_DataBytes.mono : ∀ a0 a1 k, LeO (impl_DataBytes.f k a0 a1) (impl_DataBytes.f (k + 1) a0 a1) := by
  intro a0 a1 k
  unfold impl_DataBytes.f dataNs dataSoa dataMx dataTxt
  repeat' first
    | (with_reducible exact impl_DataBytes.mono_l _ _ _ _)
    | (with_reducible exact impl_big.mono _ _ _)
    | (with_reducible exact impl_labelBytes.mono _ _)
    | (with_reducible exact LeO.refl _)
    | (with_reducible exact LeO.none _)
    | (with_reducible refine LeO.ite ?_ ?_)
    | (with_reducible refine LeO.bind ?_ (fun _ => ?_))
    | exact impl_DataBytes.mono_l _ _ _ _
    | exact impl_big.mono _ _ _
    | exact impl_labelBytes.mono _ _
    | exact LeO.none _
    | refine LeO.ite ?_ ?_
    | refine LeO.bind ?_ (fun _ => ?_)
set_option maxHeartbeats 4000000 in
theorem data_ns (k : Nat) (kind : Int) (hk : kind = 2 ∨ kind = 5) (a1 : ByteArray) (r1 : ByteArray) (r2 : Bool) (w : World) (h : dataNs k a1 = some (r1, r2)) (hv : Vars w) :
    Calls Tryz.prog 31 #[.int .i64 kind, .string a1] w fun e w' => e = .returned (.tuple #[.string r1, .bool r2]) ∧ Below w.heap.size w w' := by
  unfold dataNs at h
  obtain ⟨t, ht, h⟩ := Option.bind_eq_some_iff.mp h
  have tc := fun W => impl_isTarget.calls a1 t W ht
  have hk1 : (kind == 1) = false := by rcases hk with rfl | rfl <;> rfl
  have hk2 : kind = 2 → (kind == 2) = true := fun e => by rw [e]; rfl
  cases t with
  | false =>
    obtain ⟨rfl, rfl⟩ := Prod.mk.inj (Option.some.inj h)
    clear h ht
    rcases hk with rfl | rfl
    · go_enter Tryz.func31, Tryz.ntmps31
      go_wp2_with (go_at_call 90; refine (tc _).mono ?_; rintro e w1 ⟨rfl, hb⟩)
      go_ret2
      exact ⟨rfl, hb⟩
    · go_enter Tryz.func31, Tryz.ntmps31
      go_wp2_with (go_at_call 90; refine (tc _).mono ?_; rintro e w1 ⟨rfl, hb⟩)
      go_ret2
      exact ⟨rfl, hb⟩
  | true =>
    rw [if_pos rfl] at h
    obtain ⟨lb, hlb, h⟩ := Option.bind_eq_some_iff.mp h
    have lc := fun W => impl_labelBytes.calls k a1 lb W hlb
    by_cases hs : lb.size + 1 ≤ 9223372036854775807
    · rw [if_pos hs] at h
      obtain ⟨rfl, rfl⟩ := Prod.mk.inj (Option.some.inj h)
      have hsa := eq_true hs
      have hsc : (9223372036854775807 < lb.size + 1) = False := eq_false (by omega)
      clear h ht hlb
      rcases hk with rfl | rfl
      · go_enter Tryz.func31, Tryz.ntmps31
        go_wp2_with (first | (go_at_call 90; refine (tc _).mono ?_; rintro e w1 ⟨rfl, hb⟩) | (go_at_call 91; refine (lc _).mono ?_; rintro e w2 ⟨rfl, hb2⟩; have hb3 := below_then hb hb.size hb2))
        go_ret2
        exact ⟨rfl, hb3⟩
      · go_enter Tryz.func31, Tryz.ntmps31
        go_wp2_with (first | (go_at_call 90; refine (tc _).mono ?_; rintro e w1 ⟨rfl, hb⟩) | (go_at_call 91; refine (lc _).mono ?_; rintro e w2 ⟨rfl, hb2⟩; have hb3 := below_then hb hb.size hb2))
        go_ret2
        exact ⟨rfl, hb3⟩
    · rw [if_neg hs] at h; cases h
set_option maxHeartbeats 4000000 in
theorem data_soa (k : Nat) (a1 : ByteArray) (r1 : ByteArray) (r2 : Bool) (w : World) (h : dataSoa k a1 = some (r1, r2)) (hv : Vars w) :
    Calls Tryz.prog 31 #[.int .i64 6, .string a1] w fun e w' => e = .returned (.tuple #[.string r1, .bool r2]) ∧ Below w.heap.size w w' := by
  unfold dataSoa at h
  obtain ⟨⟨b1, b2⟩, hb0, h⟩ := Option.bind_eq_some_iff.mp h
  replace h : (if b2 = true then ((impl_big.f k b1 4).bind fun t => some (t, true)) else some badD) = some (r1, r2) := h
  have nc := fun W (hbW : Below w.heap.size w W) => impl_numberIn.calls a1 4294967295 b1 b2 W hb0 (Vars.below hv hbW)
  clear hv
  cases b2 with
  | false =>
    obtain ⟨rfl, rfl⟩ := Prod.mk.inj (Option.some.inj h)
    clear h
    go_enter Tryz.func31, Tryz.ntmps31
    go_wp2_with (go_at_call 88; refine (nc _ (Below.refl _ _)).mono ?_; rintro e w1 ⟨rfl, hb⟩)
    go_ret2
    exact ⟨rfl, hb⟩
  | true =>
    rw [if_pos rfl] at h
    obtain ⟨g, hg, h⟩ := Option.bind_eq_some_iff.mp h
    have gc := fun W => impl_big.calls k b1 4 g W hg
    obtain ⟨rfl, rfl⟩ := Prod.mk.inj (Option.some.inj h)
    clear h
    go_enter Tryz.func31, Tryz.ntmps31
    go_wp2_with (first | (go_at_call 88; refine (nc _ (Below.refl _ _)).mono ?_; rintro e w1 ⟨rfl, hb⟩) | (go_at_call 89; refine (gc _).mono ?_; rintro e w2 ⟨rfl, hb2⟩; have hb3 := below_then hb hb.size hb2))
    go_ret2
    exact ⟨rfl, hb3⟩
set_option maxHeartbeats 4000000 in
theorem data_mx (k : Nat) (a1 : ByteArray) (r1 : ByteArray) (r2 : Bool) (w : World) (h : dataMx k a1 = some (r1, r2)) (hv : Vars w) :
    Calls Tryz.prog 31 #[.int .i64 15, .string a1] w fun e w' => e = .returned (.tuple #[.string r1, .bool r2]) ∧ Below w.heap.size w w' := by
  unfold dataMx at h
  obtain ⟨⟨c1, c2, c3⟩, hc, h⟩ := Option.bind_eq_some_iff.mp h
  obtain ⟨⟨b1, b2⟩, hb0, h⟩ := Option.bind_eq_some_iff.mp h
  replace h : (if b2 = true then ((impl_isTarget.f c2).bind fun t => (if t = true then ((impl_big.f k b1 2).bind fun g => ((impl_labelBytes.f k c2).bind fun lb => (if g.size + lb.size ≤ 9223372036854775807 then (if g.size + lb.size + 1 ≤ 9223372036854775807 then some ((g ++ lb) ++ (⟨#[0]⟩ : ByteArray), true) else none) else none))) else some badD)) else some badD) = some (r1, r2) := h
  have cutc := fun W => strings_Cut.calls a1 (⟨#[32]⟩ : ByteArray) c1 c2 c3 W hc
  have nc := fun W (hbW : Below w.heap.size w W) => impl_numberIn.calls c1 65535 b1 b2 W hb0 (Vars.below hv hbW)
  clear hv
  cases b2 with
  | false =>
    obtain ⟨rfl, rfl⟩ := Prod.mk.inj (Option.some.inj h)
    clear h
    go_enter Tryz.func31, Tryz.ntmps31
    go_wp2_with (first | (go_at_call 92; refine (cutc _).mono ?_; rintro e w0 ⟨rfl, nd, rfl⟩; have hb0' := pw_below_drewN (Below.refl w.heap.size w) nd) | (go_at_call 88; refine (nc _ hb0').mono ?_; rintro e w1 ⟨rfl, hb⟩; have hb1 := below_then hb0' hb0'.size hb))
    go_ret2
    exact ⟨rfl, hb1⟩
  | true =>
    rw [if_pos rfl] at h
    obtain ⟨t, ht, h⟩ := Option.bind_eq_some_iff.mp h
    have tc := fun W => impl_isTarget.calls c2 t W ht
    cases t with
    | false =>
      obtain ⟨rfl, rfl⟩ := Prod.mk.inj (Option.some.inj h)
      clear h
      go_enter Tryz.func31, Tryz.ntmps31
      go_wp2_with (first | (go_at_call 92; refine (cutc _).mono ?_; rintro e w0 ⟨rfl, nd, rfl⟩; have hb0' := pw_below_drewN (Below.refl w.heap.size w) nd) | (go_at_call 88; refine (nc _ hb0').mono ?_; rintro e w1 ⟨rfl, hb⟩; have hb1 := below_then hb0' hb0'.size hb) | (go_at_call 90; refine (tc _).mono ?_; rintro e w2 ⟨rfl, hbt⟩; have hb2 := below_then hb1 hb1.size hbt))
      go_ret2
      exact ⟨rfl, hb2⟩
    | true =>
      rw [if_pos rfl] at h
      obtain ⟨g, hg, h⟩ := Option.bind_eq_some_iff.mp h
      obtain ⟨lb, hlb, h⟩ := Option.bind_eq_some_iff.mp h
      have gc := fun W => impl_big.calls k b1 2 g W hg
      have lc := fun W => impl_labelBytes.calls k c2 lb W hlb
      by_cases hs : g.size + lb.size ≤ 9223372036854775807
      · rw [if_pos hs] at h
        by_cases hs2 : g.size + lb.size + 1 ≤ 9223372036854775807
        · rw [if_pos hs2] at h
          obtain ⟨rfl, rfl⟩ := Prod.mk.inj (Option.some.inj h)
          have hsa := eq_true hs
          have hsc : (9223372036854775807 < g.size + lb.size) = False := eq_false (by omega)
          have hsa2 := eq_true hs2
          have hsc2 : (9223372036854775807 < g.size + lb.size + 1) = False := eq_false (by omega)
          clear h
          go_enter Tryz.func31, Tryz.ntmps31
          go_wp2_with (first | (go_at_call 92; refine (cutc _).mono ?_; rintro e w0 ⟨rfl, nd, rfl⟩; have hb0' := pw_below_drewN (Below.refl w.heap.size w) nd) | (go_at_call 88; refine (nc _ hb0').mono ?_; rintro e w1 ⟨rfl, hb⟩; have hb1 := below_then hb0' hb0'.size hb) | (go_at_call 90; refine (tc _).mono ?_; rintro e w2 ⟨rfl, hbt⟩; have hb2 := below_then hb1 hb1.size hbt) | (go_at_call 89; refine (gc _).mono ?_; rintro e w3 ⟨rfl, hbg⟩; have hb3 := below_then hb2 hb2.size hbg) | (go_at_call 91; refine (lc _).mono ?_; rintro e w4 ⟨rfl, hbl⟩; have hb4 := below_then hb3 hb3.size hbl))
          go_ret2
          exact ⟨rfl, hb4⟩
        · rw [if_neg hs2] at h; cases h
      · rw [if_neg hs] at h; cases h
set_option maxHeartbeats 4000000 in
theorem data_other (kind : Int) (h1 : kind ≠ 1) (h2 : kind ≠ 2) (h5 : kind ≠ 5) (h6 : kind ≠ 6) (h15 : kind ≠ 15) (h16 : kind ≠ 16) (a1 : ByteArray) (w : World) :
    Calls Tryz.prog 31 #[.int .i64 kind, .string a1] w fun e w' => e = .returned (.tuple #[.string (⟨#[]⟩ : ByteArray), .bool false]) ∧ Below w.heap.size w w' := by
  have g1 : (kind == 1) = false := beq_eq_false_iff_ne.mpr h1
  have g2 : (kind == 2) = false := beq_eq_false_iff_ne.mpr h2
  have g5 : (kind == 5) = false := beq_eq_false_iff_ne.mpr h5
  have g6 : (kind == 6) = false := beq_eq_false_iff_ne.mpr h6
  have g15 : (kind == 15) = false := beq_eq_false_iff_ne.mpr h15
  have g16 : (kind == 16) = false := beq_eq_false_iff_ne.mpr h16
  clear h1 h2 h5 h6 h15 h16
  go_enter Tryz.func31, Tryz.ntmps31
  go_wp2
  go_ret2
  exact ⟨rfl, Below.refl _ _⟩
theorem data_pred (xs : List Int) (W : World) : PredB 94 #[] (.int .u8) (fun c => decide (c < 32) || decide (c > 126)) xs W := by
  intro x hx W' hW
  have e : impl_DataBytes_1.f x = some (decide (x < 32) || decide (x > 126)) := by
    unfold impl_DataBytes_1.f
    by_cases h : x < 32
    · rw [if_pos h, decide_eq_true h]; rfl
    · rw [if_neg h, decide_eq_false h]; rfl
  refine (impl_DataBytes_1.calls x _ W' e).mono ?_
  rintro e w' ⟨he, nd, rfl⟩
  exact ⟨he, pw_below_drewN (Below.refl _ _) nd⟩
theorem bytes_len (s : ByteArray) : (bytesOf s).length = s.size := by
  unfold bytesOf
  simp only [List.length_map]
  exact (size_len s).symm
set_option maxRecDepth 100000 in
set_option maxHeartbeats 4000000 in
theorem data_txt (k : Nat) (a1 : ByteArray) (r1 : ByteArray) (r2 : Bool) (w : World) (h : dataTxt k a1 = some (r1, r2)) :
    Calls Tryz.prog 31 #[.int .i64 16, .string a1] w fun e w' => e = .returned (.tuple #[.string r1, .bool r2]) ∧ Below w.heap.size w w' := by
  unfold dataTxt at h
  by_cases h30 : (a1.size : Int) > 30
  · rw [if_pos h30] at h
    obtain ⟨rfl, rfl⟩ := Prod.mk.inj (Option.some.inj h)
    have e1 : decide (30 < a1.size) = true := decide_eq_true (by omega)
    have e2 : decide ((30 : Int) < (a1.size : Int)) = true := decide_eq_true (by omega)
    clear h
    go_enter Tryz.func31, Tryz.ntmps31
    go_wp2
    go_ret2
    exact ⟨rfl, Below.refl _ _⟩
  · rw [if_neg h30] at h
    have e1 : decide (30 < a1.size) = false := decide_eq_false (by omega)
    have e2 : decide ((30 : Int) < (a1.size : Int)) = false := decide_eq_false (by omega)
    have eg : ∀ args w, (callFunc 94 args).run Tryz.prog w = .ok (.enter 94 args) w := enters_of Tryz.func94 (by kernel_rfl) rfl
    have cc0 := fun W c => contains_byte (some ⟨W.heap.size, 0, none⟩) c (bytesOf a1) 94 #[] (fun c => decide (c < 32) || decide (c > 126)) (Lib.bytesWorld W 5 a1) (by
      have hr := bytes_reads W 5 a1 (by omega)
      have := Kd.C_of_reads (d := (0 : Int)) (h1 := fun _ => rfl) hr
      rw [show (bytesOf a1).length = a1.size by rw [bytes_len]]
      exact this) eg (data_pred _ _)
    have hlen : (bytesOf a1).length = a1.size := by rw [bytes_len]
    rw [hlen] at cc0
    generalize hany : (bytesOf a1).any (fun c => decide (c < 32) || decide (c > 126)) = b at h cc0
    have e30 : (30 < a1.size) = False := eq_false (by omega)
    have kb := fun W => print_bytes (P := Tryz.prog) 9 43 5 Tryz.underlying9 Tryz.underlying43 Tryz.underlying5 a1 W
    cases b with
    | true =>
      rw [if_pos rfl] at h
      obtain ⟨rfl, rfl⟩ := Prod.mk.inj (Option.some.inj h)
      clear h h30 hlen hany
      go_enter Tryz.func31, Tryz.ntmps31
      go_wp2_with (go_at_call 93; refine (cc0 _ _).mono ?_; rintro e w1 ⟨rfl, hb⟩; have hb1 := below_then (Lib.bytesWorld_below w 5 a1) (Lib.bytesWorld_below w 5 a1).size hb)
      go_ret2
      exact ⟨rfl, hb1⟩
    | false =>
      rw [if_neg (by simp)] at h
      obtain ⟨g, hg, h⟩ := Option.bind_eq_some_iff.mp h
      have gc := fun W => impl_big.calls k (a1.size : Int) 1 g W hg
      by_cases hs : g.size + a1.size ≤ 9223372036854775807
      · rw [if_pos hs] at h
        obtain ⟨rfl, rfl⟩ := Prod.mk.inj (Option.some.inj h)
        have hsa := eq_true hs
        have hsc : (9223372036854775807 < g.size + a1.size) = False := eq_false (by omega)
        clear h h30 hlen hany
        go_enter Tryz.func31, Tryz.ntmps31
        go_wp2_with (first | (go_at_call 93; refine (cc0 _ _).mono ?_; rintro e w1 ⟨rfl, hb⟩; have hb1 := below_then (Lib.bytesWorld_below w 5 a1) (Lib.bytesWorld_below w 5 a1).size hb) | (go_at_call 89; refine (gc _).mono ?_; rintro e w2 ⟨rfl, hbg⟩; have hb2 := below_then hb1 hb1.size hbg))
        go_ret2
        exact ⟨rfl, hb2⟩
      · rw [if_neg hs] at h; cases h
set_option maxRecDepth 100000 in
set_option maxHeartbeats 4000000 in
theorem data_a (k : Nat) (a1 : ByteArray) (parts : List ByteArray) (r1 : ByteArray) (r2 : Bool) (w : World) (hp : strings_Split.f a1 (⟨#[46]⟩ : ByteArray) = some parts) (h : impl_DataBytes.l0 k parts (⟨#[]⟩ : ByteArray) 0 = some (r1, r2)) (hv : Vars w) :
    Calls Tryz.prog 31 #[.int .i64 1, .string a1] w fun e w' => e = .returned (.tuple #[.string r1, .bool r2]) ∧ Below w.heap.size w w' := by
  have sc := fun W => strings_Split.calls a1 (⟨#[46]⟩ : ByteArray) parts W hp
  have HV := Aside0.mk hv
  have H' := Aside0.mk h
  clear h hv hp
  go_enter Tryz.func31, Tryz.ntmps31
  go_wp2_with (go_at_call 87; refine (sc _).mono ?_; rintro e w1 ⟨v, rfl, hR, hbw⟩; have HO := Aside0.mk hR; have HB1 := Aside0.mk hbw; clear hR hbw; obtain ⟨A, c, rfl⟩ := Kd.R_slice HO.out)
  go_loopg [6, 26] k (fun kq v6 v26 wr => ∃ (out : ByteArray) (x : Int), v6 = .string out ∧ v26 = .int .i64 x ∧ Aside0 (impl_DataBytes.l0 kq parts out x = some (r1, r2)) ∧ Aside0 (kq ≤ k) ∧ Aside0 (Kd.C Kd.string wr A parts.length parts) ∧ Aside0 (Below w.heap.size w wr))
  case atStart => exact ⟨(⟨#[]⟩ : ByteArray), 0, rfl, rfl, H', ⟨Nat.le_refl _⟩, ⟨(Kd.R_reads' HO.out).2.2⟩, HB1⟩
  case round =>
    obtain ⟨out, x, rfl, rfl, HA, HK1, HC, BW⟩ := hrel
    cases gk with
    | zero => exact absurd HA.out (by simp [impl_DataBytes.l0])
    | succ k1 =>
      have H := HA.out
      clear HA H'
      simp only [impl_DataBytes.l0] at H
      by_cases c1 : x < (parts.length : Int)
      · rw [if_pos c1] at H
        by_cases c2 : 0 ≤ x
        · rw [if_pos c2] at H
          obtain ⟨⟨b1, b2⟩, hb0, H⟩ := Option.bind_eq_some_iff.mp H
          replace H : (if b2 = true then (if (parts.length : Int) = 4 then ((impl_big.f k1 b1 1).bind fun t => (if out.size + t.size ≤ 9223372036854775807 then impl_DataBytes.l0 k1 parts (out ++ t) (wrap64 (x + 1)) else none)) else some badD) else some badD) = some (r1, r2) := H
          have nc := fun W (hbW : Below w.heap.size w W) => impl_numberIn.calls (rdOf ByteArray.empty parts x) 255 b1 b2 W hb0 (Vars.below HV.out hbW)
          have c1b : decide (x < (parts.length : Int)) = true := decide_eq_true c1
          obtain ⟨ad, e0, hx⟩ := Kd.at_string HC.out x c2 c1
          cases e0
          have c1z := eq_true c1
          have c2z := eq_true c2
          generalize rdOf ByteArray.empty parts x = pv at hb0 nc hx
          clear hb0
          have hbw := BW.out
          cases b2 with
          | false =>
            obtain ⟨rfl, rfl⟩ := Prod.mk.inj (Option.some.inj H)
            clear H
            go_wp2_with (go_at_call 88; refine (nc _ hbw).mono ?_; rintro e w2 ⟨rfl, hb2⟩)
            go_ret2
            exact ⟨rfl, below_then BW.out BW.out.size hb2⟩
          | true =>
            rw [if_pos rfl] at H
            by_cases c4 : (parts.length : Int) = 4
            · rw [if_pos c4] at H
              obtain ⟨g, hg, H⟩ := Option.bind_eq_some_iff.mp H
              have gc := fun W => impl_big.calls k1 b1 1 g W hg
              have c4a : ((parts.length : Int) == 4) = true := by rw [c4]; rfl
              have c4b : (parts.length == 4) = true := by rw [show parts.length = 4 by omega]; rfl
              have c4c : ((parts.length : Int) != 4) = false := by rw [c4]; rfl
              by_cases hs : out.size + g.size ≤ 9223372036854775807
              · rw [if_pos hs] at H
                have hsa := eq_true hs
                have hsc : (9223372036854775807 < out.size + g.size) = False := eq_false (by omega)
                have HN := Aside0.mk H
                clear H hg c4 hs
                go_wp2_with (first | (go_at_call 88; refine (nc _ hbw).mono ?_; rintro e w2 ⟨rfl, hb2⟩) | (go_at_call 89; refine (gc _).mono ?_; rintro e w3 ⟨rfl, hb3⟩; have hb4 := below_then hb2 hb2.size hb3))
                go_roundg k1
                case measure => have := HK1.out; omega
                case rel => exact ⟨out ++ g, wrap64 (x + 1), rfl, rfl, HN, ⟨by have := HK1.out; omega⟩, ⟨Kd.C_below HC.out hb4⟩, ⟨below_then BW.out BW.out.size hb4⟩⟩
              · rw [if_neg hs] at H; cases H
            · rw [if_neg c4] at H
              obtain ⟨rfl, rfl⟩ := Prod.mk.inj (Option.some.inj H)
              have c4a : ((parts.length : Int) == 4) = false := beq_eq_false_iff_ne.mpr c4
              have c4b : (parts.length == 4) = false := beq_eq_false_iff_ne.mpr (by omega)
              have c4c : ((parts.length : Int) != 4) = true := by rw [bne, c4a]; rfl
              clear H c4
              go_wp2_with (go_at_call 88; refine (nc _ hbw).mono ?_; rintro e w2 ⟨rfl, hb2⟩)
              go_ret2
              exact ⟨rfl, below_then BW.out BW.out.size hb2⟩
        · rw [if_neg c2] at H; cases H
      · rw [if_neg c1] at H
        have c1b : decide (x < (parts.length : Int)) = false := decide_eq_false c1
        obtain ⟨rfl, rfl⟩ := Prod.mk.inj (Option.some.inj H)
        clear H
        go_wp2
        go_ret2
        exact ⟨rfl, BW.out⟩
theorem impl_DataBytes.calls (k : Nat) (a0 : Int) (a1 : ByteArray) (r1 : ByteArray) (r2 : Bool) (w : World) (h : impl_DataBytes.f k a0 a1 = some (r1, r2))
    (hv : Vars w := by first | assumption | (refine Vars.below (Aside0.out (by assumption)) ?_; repeat (first | (with_reducible first | exact Below.refl _ _ | exact Aside0.out (by assumption) | apply below_alloc | apply pw_below_drewN | apply below_drew1) | exact Aside0.out (by assumption)))) :
    Calls Tryz.prog 31 #[.int .i64 a0, .string a1] w fun e w' => e = .returned (.tuple #[.string r1, .bool r2]) ∧ Below w.heap.size w w' := by
  unfold impl_DataBytes.f at h
  by_cases c1 : a0 = 1
  · rw [if_pos c1] at h
    subst c1
    obtain ⟨parts, hp, h⟩ := Option.bind_eq_some_iff.mp h
    exact data_a k a1 parts r1 r2 w hp h hv
  · rw [if_neg c1] at h
    by_cases c2 : a0 = 2 ∨ a0 = 5
    · rw [if_pos c2] at h
      exact data_ns k a0 c2 a1 r1 r2 w h hv
    · rw [if_neg c2] at h
      by_cases c6 : a0 = 6
      · rw [if_pos c6] at h
        subst c6
        exact data_soa k a1 r1 r2 w h hv
      · rw [if_neg c6] at h
        by_cases c15 : a0 = 15
        · rw [if_pos c15] at h
          subst c15
          exact data_mx k a1 r1 r2 w h hv
        · rw [if_neg c15] at h
          by_cases c16 : a0 = 16
          · rw [if_pos c16] at h
            subst c16
            exact data_txt k a1 r1 r2 w h
          · rw [if_neg c16] at h
            obtain ⟨rfl, rfl⟩ := Prod.mk.inj (Option.some.inj h)
            exact data_other a0 c1 (fun e => c2 (.inl e)) (fun e => c2 (.inr e)) c6 c15 c16 a1 w
end Go.Proofs.YtiegkjimpclmaaaGreatDoor.P

-- F207
-- By my own call of the kit's print (wip/tools/pp.py).
namespace Go.Proofs.YtiegkjimpclmaaaGreatDoor.P
open Go.RowKit Go.Proofs.YtiegkjimpclmaaaGreatDoorW.PrintWords Go.Proofs.YtiegkjimpclmaaaGreatDoorW.PrintLast Go.Proofs.YtiegkjimpclmaaaGreatDoorW.PrintMore
attribute [local go_sem] max2_int min2_int max_two min_two max_three min_three max_four min_four
set_option linter.unusedVariables false
set_option linter.unusedSimpArgs false

/-! ### impl_NameOf_1: function 207 -/
def impl_NameOf_1.f (a0 : ByteArray) : Option (Bool) := (impl_isLabel.f a0).bind fun t1382 => (some (!t1382))
set_option maxHeartbeats 8000000 in
set_option maxRecDepth 100000 in
theorem impl_NameOf_1.calls (a0 : ByteArray) (r : Bool) (w : World) (h : impl_NameOf_1.f a0 = some r) :
    Calls Tryz.prog 207 #[.string a0] w fun e w' => e = .returned (.bool r) ∧ Below w.heap.size w w' := by
  have HB := Aside0.mk (Below.refl w.heap.size w)
  have H : ((impl_isLabel.f a0).bind fun t1382 => (some (!t1382))) = some r := h
  clear h
  replace H := Option.bind_eq_some_iff.mp H
  obtain ⟨t1382, A20, H⟩ := H
  replace H : (some (!t1382)) = some r := H
  have A2 := Aside0.mk A20
  clear A20
  obtain rfl := Option.some.inj H
  go_enter Tryz.func207, Tryz.ntmps207
  go_wp2_with (first | ((with_reducible refine gate_callee (f := 147) rfl ?_); refine goesL_ (some 4) rfl rfl Tryz.func147 (by kernel_rfl) rfl #[.string a0] rfl (by (try simp only [List.map_toArray, List.map_cons, List.map_nil]); first | done | rfl | (simp only [List.length_drop, List.length_take]; rfl)) ?_; (with_reducible refine (impl_isLabel.calls a0 t1382 _ A2.out).mono ?_); rintro e w3 ⟨rfl, hb⟩; refine ⟨_, rfl, ?_⟩; have n0_ := Aside0.mk (below_step bq0_ hb); clear HB; have HB := n0_; clear n0_; (try clear hb); (try clear hb2); (try clear hk); (try clear hi)))
  go_ret
  exact ⟨by first | rfl | (simp [errW_none, errW_some] <;> rfl) | (simp [*, errW_none, errW_some] <;> rfl), by repeat (first | (with_reducible first | exact HB.out | apply below_alloc | apply pw_below_drewN | apply below_drew1) | exact HB.out)⟩

end Go.Proofs.YtiegkjimpclmaaaGreatDoor.P

-- ShelfJ
/- The shelf's layings at this program: each the kernel's comparison of a library function's body. Conditions: none. -/
namespace Go.Proofs
open Go.Shelf
def Tryz.lays156_ren : Go.Shelf.Ren := ⟨fun | 156 => 57 | 165 => 122 | 166 => 123 | 169 => 124 | 240 => 173 | 241 => 174 | 276 => 205 | 277 => 206 | n => n, fun | 31 => 78 | 9 => 9 | 3 => 3 | 4 => 4 | 0 => 0 | 20 => 20 | 72 => 138 | 76 => 105 | 70 => 136 | 37 => 43 | 75 => 104 | 127 => 169 | 164 => 191 | 5 => 5 | 80 => 128 | n => n, fun | n => n⟩
theorem Tryz.lays156 : Go.Proofs.Lays.n156 Tryz.prog Tryz.lays156_ren := {
  mixed := by kernel_rfl
  f156 := Tryz.func57.trans (congrArg some (by kernel_rfl))
  f165 := Tryz.func122.trans (congrArg some (by kernel_rfl))
  f166 := Tryz.func123.trans (congrArg some (by kernel_rfl))
  f169 := Tryz.func124.trans (congrArg some (by kernel_rfl))
  f240 := Tryz.func173.trans (congrArg some (by kernel_rfl))
  f241 := Tryz.func174.trans (congrArg some (by kernel_rfl))
  f276 := Tryz.func205.trans (congrArg some (by kernel_rfl))
  f277 := Tryz.func206.trans (congrArg some (by kernel_rfl))
  t0 := Tryz.underlying0
  a0 := Tryz.isAgg0
  z0 := Tryz.sizeOf0
  v0 := Tryz.zeroValue0
  t3 := Tryz.underlying3
  a3 := Tryz.isAgg3
  z3 := Tryz.sizeOf3
  v3 := Tryz.zeroValue3
  t4 := Tryz.underlying4
  a4 := Tryz.isAgg4
  z4 := Tryz.sizeOf4
  v4 := Tryz.zeroValue4
  t9 := Tryz.underlying9
  a9 := Tryz.isAgg9
  z9 := Tryz.sizeOf9
  v9 := Tryz.zeroValue9
  t20 := Tryz.underlying20
  a20 := Tryz.isAgg20
  z20 := Tryz.sizeOf20
  v20 := Tryz.zeroValue20
  t31 := Tryz.underlying78
  a31 := Tryz.isAgg78
  z31 := Tryz.sizeOf78
  v31 := Tryz.zeroValue78
  t37 := Tryz.underlying43
  a37 := Tryz.isAgg43
  z37 := Tryz.sizeOf43
  v37 := Tryz.zeroValue43
  t70 := Tryz.underlying136
  a70 := Tryz.isAgg136
  z70 := Tryz.sizeOf136
  v70 := Tryz.zeroValue136
  t72 := Tryz.underlying138
  a72 := Tryz.isAgg138
  z72 := Tryz.sizeOf138
  v72 := Tryz.zeroValue138
  t75 := Tryz.underlying104
  a75 := Tryz.isAgg104
  z75 := Tryz.sizeOf104
  v75 := Tryz.zeroValue104
  t76 := Tryz.underlying105
  a76 := Tryz.isAgg105
  z76 := Tryz.sizeOf105
  v76 := Tryz.zeroValue105
  t127 := Tryz.underlying169
  a127 := Tryz.isAgg169
  z127 := Tryz.sizeOf169
  v127 := Tryz.zeroValue169
  t164 := Tryz.underlying191
  a164 := Tryz.isAgg191
  z164 := Tryz.sizeOf191
  v164 := Tryz.zeroValue191 }
end Go.Proofs
