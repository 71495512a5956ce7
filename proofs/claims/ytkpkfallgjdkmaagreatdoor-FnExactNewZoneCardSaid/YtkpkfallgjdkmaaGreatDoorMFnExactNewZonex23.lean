/- FnExactNewZone: part 24 of 29 of my texts for this claim, joined; the theorem stands in the last. Conditions: none beyond the statement's. -/
import Derived.Test.YtkpkfallgjdkmaaGreatDoorMFnExactNewZonex22
import Derived.Test.YtkpkfallgjdkmaaGreatDoorMFnExactNewZonex19
import Derived.Test.YtkpkfallgjdkmaaGreatDoorMFnExactNewZonex5
import Derived.Test.YtkpkfallgjdkmaaGreatDoorMFnExactNewZonex12
import Derived.Test.YtkpkfallgjdkmaaGreatDoorMFnExactNewZonex21
import Derived.Test.YtkpkfallgjdkmaaGreatDoorMFnExactNewZonex13
namespace Go.Proofs.YtkpkfallgjdkmaaGreatDoor.P
open Go.RowKit Go.Proofs.YtkpkfallgjdkmaaGreatDoorW.PrintWords Go.Proofs.YtkpkfallgjdkmaaGreatDoorW.PrintLast Go.Proofs.YtkpkfallgjdkmaaGreatDoorW.PrintMore Go.Proofs.YtkpkfallgjdkmaaGreatDoor.Pure
set_option linter.unusedVariables false
set_option linter.unusedSimpArgs false
theorem eqA72 (d : Nat) (w : World) (x0 y0 : ByteArray) (x1 y1 : Int) (x2 y2 : Int) (x3 y3 : ByteArray) :
 (Op.equalIn (d + 2) 72 (.agg #[.string x0, .int .i64 x1, .int .i64 x2, .string x3]) (.agg #[.string y0, .int .i64 y1, .int .i64 y2, .string y3])).run Tryz.prog w = .ok (x0.toList == y0.toList && (x1 == y1 && (x2 == y2 && (x3.toList == y3.toList)))) w := by
 refine eqA_of Tryz.underlying72 (by kernel_rfl) ?_
 refine eqf_cons (by rfl) (by go_simp; rfl) (by go_simp; rfl) (by go_simp) ?_
 refine eqf_cons (by rfl) (by go_simp; rfl) (by go_simp; rfl) (by go_simp) ?_
 refine eqf_cons (by rfl) (by go_simp; rfl) (by go_simp; rfl) (by go_simp) ?_
 exact eqf_last (by rfl) (by go_simp; rfl) (by go_simp; rfl) (by go_simp)
attribute [local go_sem high] eqA72
/-- A record's cells. -/
def RecAt (W : World) (B : Nat) (r : S72) : Prop := W.cell? ⟨B, 0, none⟩ = some (.string r.f0) ∧ W.cell? ⟨B, 1, none⟩ = some (.int .i64 r.f1) ∧ W.cell? ⟨B, 2, none⟩ = some (.int .i64 r.f2) ∧ W.cell? ⟨B, 3, none⟩ = some (.string r.f3)
theorem RecAt.below {W W' : World} {B : Nat} {r : S72} (h : RecAt W B r) (hb : Below W.heap.size W W') : RecAt W' B r :=
 ⟨(hb.cell (World.block_lt_of_cell? _ _ h.1)).trans h.1, (hb.cell (World.block_lt_of_cell? _ _ h.2.1)).trans h.2.1, (hb.cell (World.block_lt_of_cell? _ _ h.2.2.1)).trans h.2.2.1, (hb.cell (World.block_lt_of_cell? _ _ h.2.2.2)).trans h.2.2.2⟩
theorem RecAt.of_box {W : World} {B : Nat} {r : S72} (h : W.heap[B]? = some (.cells #[.string r.f0, .int .i64 r.f1, .int .i64 r.f2, .string r.f3] 72 (0, 0))) : RecAt W B r :=
 ⟨(blk_cell h 0).trans rfl, (blk_cell h 1).trans rfl, (blk_cell h 2).trans rfl, (blk_cell h 3).trans rfl⟩
theorem bytes_eq (a b : ByteArray) : (a.toList == b.toList) = decide (a = b) := by
 rw [Bool.eq_iff_iff, beq_iff_eq, decide_eq_true_eq, Lib.toList_data, Lib.toList_data]
 exact (nm_eq _ _).symm
/-- The first closure: another ttl, or the same data in another record. -/
def clashB (r x : S72) : Bool := decide (x.f2 ≠ r.f2) || (decide (x.f3 = r.f3) && decide (x ≠ r))
set_option maxHeartbeats 4000000 in
set_option maxRecDepth 100000 in
theorem breaks1 (r x : S72) (B : Nat) (W : World) (hc : RecAt W B r) :
 Calls Tryz.prog 91 #[encR x, .pointer (some ⟨B, 0, none⟩)] W fun e W' => e = .returned (.bool (clashB r x)) ∧ Below W.heap.size W W' := by
 unfold encR
 have hu := Tryz.underlying72
 have key : clashB r x = (!(x.f2 == r.f2) || ((x.f3.toList == r.f3.toList) && !(x.f0.toList == r.f0.toList && (x.f1 == r.f1 && (x.f2 == r.f2 && (x.f3.toList == r.f3.toList)))))) := by
  unfold clashB
  rw [bytes_eq, bytes_eq, Bool.eq_iff_iff]
  cases x; cases r
  simp
 have HK := Aside0.mk key
 clear key
 obtain ⟨r0, r1, r2, r3⟩ := r
 obtain ⟨x0, x1, x2, x3⟩ := x
 simp only at HK
 have l0 := fun o => (below_alloc (Below.refl W.heap.size W) o).cell (World.block_lt_of_cell? _ _ hc.1) |>.trans hc.1
 have l1 := fun o => (below_alloc (Below.refl W.heap.size W) o).cell (World.block_lt_of_cell? _ _ hc.2.1) |>.trans hc.2.1
 have l2 := fun o => (below_alloc (Below.refl W.heap.size W) o).cell (World.block_lt_of_cell? _ _ hc.2.2.1) |>.trans hc.2.2.1
 have l3 := fun o => (below_alloc (Below.refl W.heap.size W) o).cell (World.block_lt_of_cell? _ _ hc.2.2.2) |>.trans hc.2.2.2
 simp only at l0 l1 l2 l3
 have HB := Aside0.mk (below_alloc (Below.refl W.heap.size W))
 by_cases c1 : x2 = r2
 · have b1 : (x2 == r2) = true := beq_iff_eq.mpr c1
   have b2 : (x2 != r2) = false := bne_eq_false_iff_eq.mpr c1
   by_cases c3 : x3.toList = r3.toList
   · have b3 : (x3.toList == r3.toList) = true := beq_iff_eq.mpr c3
     go_enter Tryz.func91, Tryz.ntmps91
     go_wp2
     go_ret
     exact ⟨by rw [HK.out, b1, b3]; simp, HB.out _⟩
   · have b3 : (x3.toList == r3.toList) = false := beq_eq_false_iff_ne.mpr c3
     go_enter Tryz.func91, Tryz.ntmps91
     go_wp2
     go_ret
     exact ⟨by rw [HK.out, b1, b3]; simp, HB.out _⟩
 · have b1 : (x2 == r2) = false := beq_eq_false_iff_ne.mpr c1
   have b2 : (x2 != r2) = true := bne_iff_ne.mpr c1
   go_enter Tryz.func91, Tryz.ntmps91
   go_wp2
   go_ret
   exact ⟨by rw [HK.out, b1]; rfl, HB.out _⟩
/-- The second closure: a cut at or above the record's name, and the record is neither an address nor the cut's own. -/
def cutB (apex : ByteArray) (r c : S72) : Bool := (decide (c.f1 = 2) && (decide (c.f0 ≠ apex) && belowL (nmL r) (nmL c))) && (decide (r.f1 ≠ 1) && !(decide (r.f1 = 2) && decide (r.f0 = c.f0)))
set_option maxHeartbeats 4000000 in
set_option maxRecDepth 100000 in
theorem breaks2 (apex : ByteArray) (r c : S72) (BA B : Nat) (W : World) (hs : r.f0.size ≤ 1048576 ∧ c.f0.size ≤ 1048576) (ha : W.cell? ⟨BA, 0, none⟩ = some (.string apex)) (hc : RecAt W B r) :
 Calls Tryz.prog 92 #[encR c, .pointer (some ⟨BA, 0, none⟩), .pointer (some ⟨B, 0, none⟩)] W fun e W' => e = .returned (.bool (cutB apex r c)) ∧ Below W.heap.size W W' := by
 unfold encR
 have hu := Tryz.underlying72
 have hbel := implBelow_eq r.f0 c.f0 (by omega) (by omega)
 have key : cutB apex r c = ((c.f1 == 2 && (!(c.f0.toList == apex.toList) && belowL r.f0.data.toList c.f0.data.toList)) && (!(r.f1 == 1) && !(r.f1 == 2 && r.f0.toList == c.f0.toList))) := by
  have e : ∀ a b : Int, (a == b) = decide (a = b) := fun a b => by rw [Bool.eq_iff_iff, beq_iff_eq, decide_eq_true_eq]
  unfold cutB nmL
  rw [bytes_eq, bytes_eq, e, e, e]
  simp
 have HK := Aside0.mk key
 have HBel := Aside0.mk hbel
 clear key hbel
 obtain ⟨r0, r1, r2, r3⟩ := r
 obtain ⟨c0, c1, c2, c3⟩ := c
 simp only at HK HBel
 have l0 := fun o => (below_alloc (Below.refl W.heap.size W) o).cell (World.block_lt_of_cell? _ _ hc.1) |>.trans hc.1
 have l1 := fun o => (below_alloc (Below.refl W.heap.size W) o).cell (World.block_lt_of_cell? _ _ hc.2.1) |>.trans hc.2.1
 have la := fun o => (below_alloc (Below.refl W.heap.size W) o).cell (World.block_lt_of_cell? _ _ ha) |>.trans ha
 simp only at l0 l1
 have HB := Aside0.mk (below_alloc (Below.refl W.heap.size W))
 generalize hq : belowL r0.data.toList c0.data.toList = q at HK HBel
 by_cases d1 : c1 = 2
 · have b1 : (c1 == 2) = true := beq_iff_eq.mpr d1
   clear d1
   by_cases d2 : c0.toList = apex.toList
   · have b2 : (c0.toList == apex.toList) = true := beq_iff_eq.mpr d2
     have b2' : (c0.toList != apex.toList) = false := bne_eq_false_iff_eq.mpr d2
     go_enter Tryz.func92, Tryz.ntmps92
     go_wp2
     go_ret
     exact ⟨by rw [HK.out, b1, b2]; rfl, HB.out _⟩
   · have b2 : (c0.toList == apex.toList) = false := beq_eq_false_iff_ne.mpr d2
     have b2' : (c0.toList != apex.toList) = true := bne_iff_ne.mpr d2
     cases q with
     | false =>
      go_enter Tryz.func92, Tryz.ntmps92
      go_wp2_with (go_at_call 90; refine (impl_isBelow.calls _ _ _ _ HBel.out).mono ?_; rintro e w' ⟨rfl, ⟨nd, rfl⟩⟩)
      go_ret
      exact ⟨by rw [HK.out, b1, b2]; rfl, pw_below_drewN (HB.out _) _⟩
     | true =>
      by_cases d3 : r1 = 1
      · have b3 : (r1 == 1) = true := beq_iff_eq.mpr d3
        go_enter Tryz.func92, Tryz.ntmps92
        go_wp2_with (go_at_call 90; refine (impl_isBelow.calls _ _ _ _ HBel.out).mono ?_; rintro e w' ⟨rfl, ⟨nd, rfl⟩⟩)
        go_ret
        exact ⟨by rw [HK.out, b1, b2, b3]; rfl, pw_below_drewN (HB.out _) _⟩
      · have b3 : (r1 == 1) = false := beq_eq_false_iff_ne.mpr d3
        have b3' : (r1 != 1) = true := bne_iff_ne.mpr d3
        by_cases d4 : r1 = 2
        · have b4 : (r1 == 2) = true := beq_iff_eq.mpr d4
          by_cases d5 : r0.toList = c0.toList
          · have b5 : (r0.toList == c0.toList) = true := beq_iff_eq.mpr d5
            go_enter Tryz.func92, Tryz.ntmps92
            go_wp2_with (go_at_call 90; refine (impl_isBelow.calls _ _ _ _ HBel.out).mono ?_; rintro e w' ⟨rfl, ⟨nd, rfl⟩⟩)
            go_ret
            exact ⟨by rw [HK.out, b1, b2, b3, b4, b5]; rfl, pw_below_drewN (HB.out _) _⟩
          · have b5 : (r0.toList == c0.toList) = false := beq_eq_false_iff_ne.mpr d5
            go_enter Tryz.func92, Tryz.ntmps92
            go_wp2_with (go_at_call 90; refine (impl_isBelow.calls _ _ _ _ HBel.out).mono ?_; rintro e w' ⟨rfl, ⟨nd, rfl⟩⟩)
            go_ret
            exact ⟨by rw [HK.out, b1, b2, b3, b4, b5]; rfl, pw_below_drewN (HB.out _) _⟩
        · have b4 : (r1 == 2) = false := beq_eq_false_iff_ne.mpr d4
          go_enter Tryz.func92, Tryz.ntmps92
          go_wp2_with (go_at_call 90; refine (impl_isBelow.calls _ _ _ _ HBel.out).mono ?_; rintro e w' ⟨rfl, ⟨nd, rfl⟩⟩)
          go_ret
          exact ⟨by rw [HK.out, b1, b2, b3, b4]; rfl, pw_below_drewN (HB.out _) _⟩
 · have b1 : (c1 == 2) = false := beq_eq_false_iff_ne.mpr d1
   go_enter Tryz.func92, Tryz.ntmps92
   go_wp2
   go_ret
   exact ⟨by rw [HK.out, b1]; rfl, HB.out _⟩
end Go.Proofs.YtkpkfallgjdkmaaGreatDoor.P
namespace Go.Proofs.YtkpkfallgjdkmaaGreatDoor.Pure
open Go.RowKit Go.Proofs.YtkpkfallgjdkmaaGreatDoor.P Go.Proofs.YtkpkfallgjdkmaaGreatDoorW.PrintWords Go.Proofs.YtkpkfallgjdkmaaGreatDoorW.PrintLast Go.Proofs.YtkpkfallgjdkmaaGreatDoorW.PrintMore
set_option linter.unusedVariables false
set_option linter.unusedSimpArgs false
theorem tl_eq (a b : ByteArray) : (a.toList = b.toList) ↔ a = b := by
 rw [Lib.toList_data, Lib.toList_data]; exact (nm_eq a b).symm
theorem w64p {x : Int} (h : x < 4611686018427387904) (h0 : 0 ≤ x) : wrap64 (x + 1) = x + 1 := by unfold wrap64; omega
theorem has_ev6 (L : List ZRec) (x : ByteArray) (c : Int) (hL : L.length < 1099511627776) : ∀ (m i : Nat), i + m = L.length → Ev (fun k => spec_l6Has.l0 k x c L (L.length : Int) (i : Int)) (hasL (L.drop i) x.data.toList c)
 | 0, i, h => by
  refine Ev.step (f := fun _ => some false) (fun k => ?_) ?_
  · show spec_l6Has.l0 (k + 1) x c L (L.length : Int) (i : Int) = _
    rw [spec_l6Has.l0, if_neg (by omega)]
  · rw [List.drop_of_length_le (by omega)]; exact Ev.now _
 | m + 1, i, h => by
  have hi : i < L.length := by omega
  have ih := has_ev6 L x c hL m (i + 1) (by omega)
  rw [List.drop_eq_getElem_cons hi]
  unfold hasL at ih ⊢
  rw [List.any_cons]
  have es : ∀ k, spec_l6Has.l0 (k + 1) x c L (L.length : Int) (i : Int) = (if L[i].f0.toList = x.toList then (if L[i].f1 = c then (some true) else (spec_l6Has.l0 k x c L (L.length : Int) ((i + 1 : Nat) : Int))) else (spec_l6Has.l0 k x c L (L.length : Int) ((i + 1 : Nat) : Int))) := fun k => by
   rw [spec_l6Has.l0, if_pos (by omega), if_pos (by omega), if_pos (by omega), rdI L i hi, w64n (by omega)]
  by_cases h1 : L[i].f0 = x
  · by_cases h2 : L[i].f1 = c
    · refine Ev.step (f := fun _ => some true) (fun k => ?_) ?_
      · rw [es, if_pos ((tl_eq _ _).2 h1), if_pos h2]
      · rw [decide_eq_true (show nmL L[i] = x.data.toList from (nm_eq _ _).1 h1), decide_eq_true h2]; exact Ev.now _
    · rw [decide_eq_false h2, Bool.and_false, Bool.false_or]
      exact Ev.step (fun k => by rw [es, if_pos ((tl_eq _ _).2 h1), if_neg h2]) ih
  · rw [decide_eq_false (show ¬ nmL L[i] = x.data.toList from fun e => h1 ((nm_eq _ _).2 e)), Bool.false_and, Bool.false_or]
    exact Ev.step (fun k => by rw [es, if_neg (fun e => h1 ((tl_eq _ _).1 e))]) ih
theorem hasF_ev (L : List ZRec) (x : ByteArray) (c : Int) (hL : L.length < 1099511627776) : Ev (fun k => spec_l6Has.f k L x c) (hasL L x.data.toList c) := by
 have := has_ev6 L x c hL L.length 0 (by omega)
 rw [List.drop_zero] at this
 exact Ev.congr (fun k => rfl) this
/-- What l6Cut hands on. -/
def repC : Option (List UInt8) → ByteArray × Bool
 | some c => (mkB c, true)
 | none => (⟨#[]⟩, false)
theorem cut_ev (apex : ByteArray) (L : List ZRec) (ha : apex.size ≤ 1048576) (hL : L.length < 1099511627776) : ∀ (n : Nat) (found : Option (List UInt8)) (name : List UInt8), name.length < n → name.length ≤ 1048576 →
 Ev (fun k => spec_l6Cut.l0 k apex L (mkB name) (repC found).1 (repC found).2) (repC (cutL apex.data.toList L n found name))
 | 0, found, name, hn, hs => absurd hn (by omega)
 | n + 1, found, name, hn, hs => by
  have hb := specBelow_eq (mkB name) apex (by rw [mkB_size]; omega) (by omega)
  rw [mkB_data] at hb
  unfold cutL
  have stop : Ev (fun k => spec_l6Cut.j1 k apex L (mkB name) (repC found).1 (repC found).2 false) (repC found) :=
   Ev.step (f := fun _ => some ((repC found).1, (repC found).2)) (fun k => by rw [spec_l6Cut.j1, if_neg (by decide)]) (Ev.now _)
  by_cases h1 : name = apex.data.toList
  · rw [if_neg (fun c => c.1 h1)]
    refine Ev.step (f := fun k => spec_l6Cut.j1 k apex L (mkB name) (repC found).1 (repC found).2 false) (fun k => ?_) stop
    rw [spec_l6Cut.l0, if_pos (by rw [Lib.toList_data, Lib.toList_data, mkB_data]; exact h1)]
  · refine Ev.step (f := fun k => spec_l6Cut.j1 k apex L (mkB name) (repC found).1 (repC found).2 (belowL name apex.data.toList)) (fun k => ?_) ?_
    · rw [spec_l6Cut.l0, if_neg (by rw [Lib.toList_data, Lib.toList_data, mkB_data]; exact h1), hb, Option.bind_some]
    · by_cases h2 : belowL name apex.data.toList = true
      · rw [if_pos ⟨h1, h2⟩, h2]
        have hh := hasF_ev L (mkB name) 2 hL
        have hp := specParent_ev (mkB name) (by rw [mkB_size]; omega)
        rw [mkB_data] at hh hp
        have hpl : (parL name).length ≤ name.length - 1 := parL_len name
        refine Ev.step (f := fun k => (spec_l6Has.f k L (mkB name) 2).bind fun t693 => (if t693 = true then (if (mkB name).toList = ([] : List UInt8) then (some ((mkB name), true)) else ((spec_l1Parent.f k (mkB name)).bind fun t694 => (spec_l6Cut.l0 k apex L t694 (mkB name) true))) else (if (mkB name).toList = ([] : List UInt8) then (some ((repC found).1, (repC found).2)) else ((spec_l1Parent.f k (mkB name)).bind fun t695 => (spec_l6Cut.l0 k apex L t695 (repC found).1 (repC found).2))))) (fun k => by rw [spec_l6Cut.j1, if_pos rfl]) (Ev.bind hh ?_)
        by_cases h3 : hasL L name 2 = true
        · simp only [if_pos h3]
          by_cases h4 : name = []
          · simp only [if_pos h4, if_pos (show (mkB name).toList = [] by rw [Lib.toList_data, mkB_data]; exact h4)]
            exact Ev.now _
          · have hlt : 0 < name.length := List.length_pos_iff.2 h4
            simp only [if_neg h4, if_neg (show ¬ (mkB name).toList = [] by rw [Lib.toList_data, mkB_data]; exact h4)]
            exact Ev.bind hp (cut_ev apex L ha hL n (some name) (parL name) (by omega) (by omega))
        · simp only [if_neg h3]
          by_cases h4 : name = []
          · simp only [if_pos h4, if_pos (show (mkB name).toList = [] by rw [Lib.toList_data, mkB_data]; exact h4)]
            exact Ev.now _
          · have hlt : 0 < name.length := List.length_pos_iff.2 h4
            simp only [if_neg h4, if_neg (show ¬ (mkB name).toList = [] by rw [Lib.toList_data, mkB_data]; exact h4)]
            exact Ev.bind hp (cut_ev apex L ha hL n found (parL name) (by omega) (by omega))
      · rw [if_neg (fun c => h2 c.2), Bool.eq_false_iff.mpr h2]
        exact stop
theorem cutF_ev (apex name : ByteArray) (L : List ZRec) (ha : apex.size ≤ 1048576) (hn : name.size ≤ 1048576) (hL : L.length < 1099511627776) : Ev (fun k => spec_l6Cut.f k apex L name) (repC (cutOf apex.data.toList L name.data.toList)) := by
 have := cut_ev apex L ha hL (name.data.toList.length + 1) none name.data.toList (by omega) (by rw [← size_len]; exact hn)
 rw [show mkB name.data.toList = name by simp [mkB]] at this
 exact Ev.congr (fun k => rfl) this
/-- The last loop: the cuts. -/
theorem rule4 (x0 : ByteArray) (L : List ZRec) (ha : x0.size ≤ 1048576) (hL : L.length < 1099511627776) (hs : ∀ r ∈ L, r.f0.size ≤ 1048576) : ∀ (m i : Nat), i + m = L.length →
 Ev (fun k => spec_l6Rule.l4 k x0 L L (L.length : Int) (i : Int)) (if (L.drop i).any (six x0.data.toList L) = true then 6 else 0)
 | 0, i, h => by
  refine Ev.step (f := fun _ => some 0) (fun k => ?_) ?_
  · show spec_l6Rule.l4 (k + 1) x0 L L (L.length : Int) (i : Int) = _
    rw [spec_l6Rule.l4, if_neg (by omega)]
  · rw [List.drop_of_length_le (by omega)]; exact Ev.now _
 | m + 1, i, h => by
  have hi : i < L.length := by omega
  have ih := rule4 x0 L ha hL hs m (i + 1) (by omega)
  have hc := cutF_ev x0 L[i].f0 L ha (hs _ (List.getElem_mem hi)) hL
  have es : ∀ k, spec_l6Rule.l4 (k + 1) x0 L L (L.length : Int) (i : Int) = ((spec_l6Cut.f k x0 L L[i].f0).bind fun bt716 => (if bt716.2 = true then (if L[i].f1 = 1 then (spec_l6Rule.l4 k x0 L L (L.length : Int) ((i + 1 : Nat) : Int)) else (if L[i].f1 = 2 then (if L[i].f0.toList = bt716.1.toList then (spec_l6Rule.l4 k x0 L L (L.length : Int) ((i + 1 : Nat) : Int)) else (some 6)) else (some 6))) else (spec_l6Rule.l4 k x0 L L (L.length : Int) ((i + 1 : Nat) : Int)))) := fun k => by
   rw [spec_l6Rule.l4, if_pos (by omega), if_pos (by omega), if_pos (by omega), rdI L i hi, w64n (by omega)]
  rw [List.drop_eq_getElem_cons hi, List.any_cons]
  refine Ev.step es (Ev.bind hc ?_)
  rw [show six x0.data.toList L L[i] = (match cutOf x0.data.toList L L[i].f0.data.toList with | some c => decide (L[i].f1 ≠ 1) && (decide (L[i].f1 ≠ 2) || decide (L[i].f0.data.toList ≠ c)) | none => false) from rfl]
  cases cutOf x0.data.toList L L[i].f0.data.toList with
  | none => simp only [repC, Bool.false_eq_true, if_false, Bool.false_or]; exact ih
  | some c =>
   simp only [repC, if_true]
   by_cases h1 : L[i].f1 = 1
   · simp only [if_pos h1, decide_eq_false (show ¬ L[i].f1 ≠ 1 from fun e => e h1), Bool.false_and, Bool.false_or]
     exact ih
   · simp only [if_neg h1, decide_eq_true h1, Bool.true_and]
     by_cases h2 : L[i].f1 = 2
     · simp only [if_pos h2, decide_eq_false (show ¬ L[i].f1 ≠ 2 from fun e => e h2), Bool.false_or]
       by_cases h3 : L[i].f0.data.toList = c
       · rw [decide_eq_false (show ¬ L[i].f0.data.toList ≠ c from fun e => e h3), Bool.false_or]
         exact Ev.congr (fun k => if_pos (show L[i].f0.toList = (mkB c).toList by rw [Lib.toList_data, Lib.toList_data, mkB_data]; exact h3)) ih
       · rw [decide_eq_true (show L[i].f0.data.toList ≠ c from h3), Bool.true_or, if_pos rfl]
         exact Ev.congr (fun k => if_neg (show ¬ L[i].f0.toList = (mkB c).toList by rw [Lib.toList_data, Lib.toList_data, mkB_data]; exact h3)) (Ev.now _)
     · simp only [if_neg h2, decide_eq_true h2, Bool.true_or, if_true]
       exact Ev.now _
/-- The third loop, and the rest. -/
theorem rule3 (x0 : ByteArray) (L : List ZRec) (r : ZRec) (i : Nat) {X : Int} (hL : L.length < 1099511627776) (hX : Ev (fun k => spec_l6Rule.l2 k x0 L L (L.length : Int) ((i + 1 : Nat) : Int)) X) (hi : i < L.length) (P : List ZRec) (hP : P.length < 1099511627776) : ∀ (m j : Nat), j + m = P.length →
 Ev (fun k => spec_l6Rule.l3 k x0 L L (L.length : Int) (i : Int) P (P.length : Int) (j : Int) r.f0 r.f1 r.f2 r.f3) (if (P.drop j).any (fun o => decide (o.f0 = r.f0) && (decide (o.f1 = 5) || decide (r.f1 = 5))) = true then 4 else X)
 | 0, j, h => by
  refine Ev.step (f := fun k => spec_l6Rule.l2 k x0 L L (L.length : Int) ((i + 1 : Nat) : Int)) (fun k => ?_) ?_
  · show spec_l6Rule.l3 (k + 1) x0 L L (L.length : Int) (i : Int) P (P.length : Int) (j : Int) r.f0 r.f1 r.f2 r.f3 = _
    rw [spec_l6Rule.l3, if_neg (by omega), w64n (by omega)]
  · rw [List.drop_of_length_le (by omega)]; exact hX
 | m + 1, j, h => by
  have hj : j < P.length := by omega
  have ih := rule3 x0 L r i hL hX hi P hP m (j + 1) (by omega)
  have es : ∀ k, spec_l6Rule.l3 (k + 1) x0 L L (L.length : Int) (i : Int) P (P.length : Int) (j : Int) r.f0 r.f1 r.f2 r.f3 = (if P[j].f0.toList = r.f0.toList then (if P[j].f1 = 5 then (some 4) else (if r.f1 = 5 then (some 4) else (spec_l6Rule.l3 k x0 L L (L.length : Int) (i : Int) P (P.length : Int) ((j + 1 : Nat) : Int) r.f0 r.f1 r.f2 r.f3))) else (spec_l6Rule.l3 k x0 L L (L.length : Int) (i : Int) P (P.length : Int) ((j + 1 : Nat) : Int) r.f0 r.f1 r.f2 r.f3)) := fun k => by
   rw [spec_l6Rule.l3, if_pos (by omega), if_pos (by omega), if_pos (by omega), rdI P j hj, w64n (by omega)]
  rw [List.drop_eq_getElem_cons hj, List.any_cons]
  refine Ev.step es ?_
  by_cases h1 : P[j].f0 = r.f0
  · simp only [if_pos ((tl_eq _ _).2 h1), decide_eq_true h1, Bool.true_and]
    by_cases h2 : P[j].f1 = 5
    · simp only [if_pos h2, decide_eq_true h2, Bool.true_or, if_true]; exact Ev.now _
    · simp only [if_neg h2, decide_eq_false h2, Bool.false_or]
      by_cases h3 : r.f1 = 5
      · simp only [if_pos h3, decide_eq_true h3, Bool.true_or, if_true]; exact Ev.now _
      · simp only [if_neg h3, decide_eq_false h3, Bool.false_or]
        simp only [decide_eq_false h3, Bool.or_false] at ih
        simp only [Bool.or_false]
        exact ih
  · simp only [if_neg (fun e => h1 ((tl_eq _ _).1 e)), decide_eq_false h1, Bool.false_and, Bool.false_or]
    exact ih
theorem rule2 (x0 : ByteArray) (L : List ZRec) (ha : x0.size ≤ 1048576) (hL : L.length < 1099511627776) (hs : ∀ r ∈ L, r.f0.size ≤ 1048576) : ∀ (m i : Nat), i + m = L.length →
 Ev (fun k => spec_l6Rule.l2 k x0 L L (L.length : Int) (i : Int)) (if pairB (L.take i) (L.drop i) = true then 4 else if hasL L x0.data.toList 5 = true then 5 else if L.any (six x0.data.toList L) = true then 6 else 0)
 | 0, i, h => by
  refine Ev.step (f := fun k => (spec_l6Has.f k L x0 5).bind fun t713 => (if t713 = true then (some 5) else (spec_l6Rule.l4 k x0 L L (L.length : Int) 0))) (fun k => ?_) ?_
  · show spec_l6Rule.l2 (k + 1) x0 L L (L.length : Int) (i : Int) = _
    rw [spec_l6Rule.l2, if_neg (by omega)]
  · rw [List.drop_of_length_le (by omega), pairB, if_neg (by decide)]
    refine Ev.bind (hasF_ev L x0 5 hL) ?_
    by_cases h5 : hasL L x0.data.toList 5 = true
    · simp only [if_pos h5]; exact Ev.now _
    · simp only [if_neg h5]
      have := rule4 x0 L ha hL hs L.length 0 (by omega)
      rw [List.drop_zero] at this
      exact this
 | m + 1, i, h => by
  have hi : i < L.length := by omega
  have ih := rule2 x0 L ha hL hs m (i + 1) (by omega)
  have hlen : (L.take i).length = i := by rw [List.length_take]; omega
  have h3 := rule3 x0 L L[i] i hL ih hi (L.take i) (by omega) (L.take i).length 0 (by omega)
  rw [List.drop_zero] at h3
  rw [List.drop_eq_getElem_cons hi, pairB]
  rw [List.take_add_one, List.getElem?_eq_getElem hi] at h3
  have e : (if ((L.take i).any fun o => decide (o.f0 = L[i].f0) && (decide (o.f1 = 5) || decide (L[i].f1 = 5))) = true then (4 : Int) else if pairB (L.take i ++ (some L[i]).toList) (L.drop (i + 1)) = true then 4 else if hasL L x0.data.toList 5 = true then 5 else if L.any (six x0.data.toList L) = true then 6 else 0) = (if (((L.take i).any fun o => decide (o.f0 = L[i].f0) && (decide (o.f1 = 5) || decide (L[i].f1 = 5))) || pairB (L.take i ++ [L[i]]) (L.drop (i + 1))) = true then 4 else if hasL L x0.data.toList 5 = true then 5 else if L.any (six x0.data.toList L) = true then 6 else 0) := by
   rw [show (some L[i]).toList = [L[i]] from rfl]
   cases ((L.take i).any fun o => decide (o.f0 = L[i].f0) && (decide (o.f1 = 5) || decide (L[i].f1 = 5))) with
   | true => simp only [if_true, Bool.true_or]
   | false => simp only [Bool.false_eq_true, if_false, Bool.false_or]
  rw [← e]
  refine Ev.step (fun k => ?_) h3
  rw [spec_l6Rule.l2, if_pos (by omega), if_pos (by omega), if_pos (by omega), if_pos (by omega), rdI L i hi, Option.bind_some, Int.toNat_natCast]
  rfl
/-- The second loop, and the rest. -/
theorem rule1 (x0 : ByteArray) (L : List ZRec) (hL : L.length < 1099511627776) {X : Int} (hX : Ev (fun k => spec_l6Rule.l2 k x0 L L (L.length : Int) 0) X) : ∀ (m i : Nat), i + m = L.length → 1 ≤ i →
 Ev (fun k => spec_l6Rule.l1 k x0 L L (L.length : Int) (i : Int)) (if adjB (L.drop (i - 1)) = true then 3 else X)
 | 0, i, h, h1 => by
  refine Ev.step (f := fun k => spec_l6Rule.l2 k x0 L L (L.length : Int) 0) (fun k => ?_) ?_
  · show spec_l6Rule.l1 (k + 1) x0 L L (L.length : Int) (i : Int) = _
    rw [spec_l6Rule.l1, if_neg (by omega)]
  · rw [List.drop_eq_getElem_cons (show i - 1 < L.length by omega), List.drop_of_length_le (by omega)]
    exact hX
 | m + 1, i, h, h1 => by
  have hi : i < L.length := by omega
  have hp : i - 1 < L.length := by omega
  have ih := rule1 x0 L hL hX m (i + 1) (by omega) (by omega)
  have wp : wrap64 ((i : Int) - 1) = ((i - 1 : Nat) : Int) := by unfold wrap64; omega
  have es : ∀ k, spec_l6Rule.l1 (k + 1) x0 L L (L.length : Int) (i : Int) = (if L[i - 1].f0.toList = L[i].f0.toList then (if L[i - 1].f1 = L[i].f1 then (if L[i - 1].f2 = L[i].f2 then (if L[i - 1].f3.toList = L[i].f3.toList then (some 3) else (spec_l6Rule.l1 k x0 L L (L.length : Int) ((i + 1 : Nat) : Int))) else (some 3)) else (spec_l6Rule.l1 k x0 L L (L.length : Int) ((i + 1 : Nat) : Int))) else (spec_l6Rule.l1 k x0 L L (L.length : Int) ((i + 1 : Nat) : Int))) := fun k => by
   rw [spec_l6Rule.l1, if_pos (by omega), if_pos (by omega), if_pos (by omega), if_pos (by omega), wp, if_pos (by omega), if_pos (by omega), rdI L i hi, rdI L (i - 1) hp, w64n (by omega)]
  rw [List.drop_eq_getElem_cons hp, show i - 1 + 1 = i by omega, List.drop_eq_getElem_cons hi, adjB]
  rw [Nat.add_sub_cancel, List.drop_eq_getElem_cons hi] at ih
  refine Ev.step es ?_
  unfold sameK
  by_cases c0 : L[i - 1].f0 = L[i].f0
  · by_cases c1 : L[i - 1].f1 = L[i].f1
    · by_cases c2 : L[i - 1].f2 = L[i].f2
      · by_cases c3 : L[i - 1].f3 = L[i].f3
        · simp only [if_pos ((tl_eq _ _).2 c0), if_pos c1, if_pos c2, if_pos ((tl_eq _ _).2 c3), decide_eq_true c0, decide_eq_true c1, decide_eq_true c3, Bool.true_and, Bool.or_true, Bool.true_or, if_true]
          exact Ev.now _
        · simp only [if_pos ((tl_eq _ _).2 c0), if_pos c1, if_pos c2, if_neg (fun e => c3 ((tl_eq _ _).1 e)), decide_eq_true c0, decide_eq_true c1, decide_eq_false c3, decide_eq_false (show ¬ L[i - 1].f2 ≠ L[i].f2 from fun e => e c2), Bool.true_and, Bool.or_false, Bool.false_or]
          exact ih
      · simp only [if_pos ((tl_eq _ _).2 c0), if_pos c1, if_neg c2, decide_eq_true c0, decide_eq_true c1, decide_eq_true (show L[i - 1].f2 ≠ L[i].f2 from c2), Bool.true_and, Bool.true_or, if_true]
        exact Ev.now _
    · simp only [if_pos ((tl_eq _ _).2 c0), if_neg c1, decide_eq_false c1, Bool.and_false, Bool.false_and, Bool.false_or]
      exact ih
  · simp only [if_neg (fun e => c0 ((tl_eq _ _).1 e)), decide_eq_false c0, Bool.false_and, Bool.false_or]
    exact ih
theorem rule1F (x0 : ByteArray) (L : List ZRec) (hL : L.length < 1099511627776) {X : Int} (hX : Ev (fun k => spec_l6Rule.l2 k x0 L L (L.length : Int) 0) X) : Ev (fun k => spec_l6Rule.l1 k x0 L L (L.length : Int) 0) (if adjB L = true then 3 else X) := by
 cases hl : L with
 | nil =>
  subst hl
  refine Ev.step (f := fun k => spec_l6Rule.l2 k x0 [] [] (([] : List ZRec).length : Int) 0) (fun k => ?_) hX
  rw [spec_l6Rule.l1, if_neg (by decide)]
 | cons x l =>
  rw [← hl]
  have hlen : 1 ≤ L.length := by rw [hl, List.length_cons]; omega
  have := rule1 x0 L hL hX (L.length - 1) 1 (by omega) (Nat.le_refl _)
  rw [Nat.sub_self, List.drop_zero] at this
  refine Ev.step (fun k => ?_) this
  rw [spec_l6Rule.l1, if_pos (by omega), if_pos (by omega), if_pos (by omega), if_neg (by omega), show wrap64 (0 + 1) = ((1 : Nat) : Int) by unfold wrap64; omega]
/-- The first loop, and the rest. -/
theorem rule0 (x0 : ByteArray) (L : List ZRec) (ha : x0.size ≤ 1048576) (hL : L.length < 1099511627776) (hs : ∀ r ∈ L, r.f0.size ≤ 1048576) {X : Int} (hX : Ev (fun k => spec_l6Rule.l1 k x0 L L (L.length : Int) 0) X) : ∀ (m i : Nat) (s : Int), i + m = L.length → 0 ≤ s → s ≤ 2 * i →
 Ev (fun k => spec_l6Rule.l0 k x0 L s L (L.length : Int) (i : Int)) (if ((L.drop i).any fun r => !belowL (nmL r) x0.data.toList) = true then 1 else if s + soaW x0 (L.drop i) ≠ 1 then 2 else X)
 | 0, i, s, h, h0, h1 => by
  rw [List.drop_of_length_le (by omega), List.any_nil, if_neg (by decide)]
  have es : ∀ k, spec_l6Rule.l0 (k + 1) x0 L s L (L.length : Int) (i : Int) = (if s = 1 then (spec_l6Rule.l1 k x0 L L (L.length : Int) 0) else (some 2)) := fun k => by
   rw [spec_l6Rule.l0, if_neg (by omega)]
  show Ev _ (if s + 0 ≠ 1 then 2 else X)
  by_cases c : s = 1
  · rw [if_neg (by omega)]
    exact Ev.step (fun k => by rw [es, if_pos c]) hX
  · rw [if_pos (by omega)]
    exact Ev.step (f := fun _ => some 2) (fun k => by rw [es, if_neg c]) (Ev.now _)
 | m + 1, i, s, h, h0, h1 => by
  have hi : i < L.length := by omega
  have hb := specBelow_eq L[i].f0 x0 (by have := hs _ (List.getElem_mem hi); omega) (by omega)
  have es : ∀ k, spec_l6Rule.l0 (k + 1) x0 L s L (L.length : Int) (i : Int) = (if belowL (nmL L[i]) x0.data.toList = true then (if L[i].f1 = 6 then (if L[i].f0.toList = x0.toList then (spec_l6Rule.l0 k x0 L (s + 1) L (L.length : Int) ((i + 1 : Nat) : Int)) else (spec_l6Rule.l0 k x0 L (s + 1 + 1) L (L.length : Int) ((i + 1 : Nat) : Int))) else (spec_l6Rule.l0 k x0 L s L (L.length : Int) ((i + 1 : Nat) : Int))) else (some 1)) := fun k => by
   rw [spec_l6Rule.l0, if_pos (by omega), if_pos (by omega), if_pos (by omega), rdI L i hi, hb, Option.bind_some, w64n (by omega), w64p (by omega) h0, w64p (by omega) (by omega)]
   rfl
  rw [List.drop_eq_getElem_cons hi, List.any_cons]
  refine Ev.step es ?_
  by_cases c : belowL (nmL L[i]) x0.data.toList = true
  · simp only [if_pos c, c, Bool.not_true, Bool.false_or]
    show Ev _ (if ((L.drop (i + 1)).any fun r => !belowL (nmL r) x0.data.toList) = true then 1 else if s + ((if L[i].f1 = 6 then (if L[i].f0 = x0 then 1 else 2) else 0) + soaW x0 (L.drop (i + 1))) ≠ 1 then 2 else X)
    by_cases c6 : L[i].f1 = 6
    · simp only [if_pos c6]
      by_cases ca : L[i].f0 = x0
      · simp only [if_pos ((tl_eq _ _).2 ca), if_pos ca]
        have ih := rule0 x0 L ha hL hs hX m (i + 1) (s + 1) (by omega) (by omega) (by omega)
        rw [show s + (1 + soaW x0 (L.drop (i + 1))) = s + 1 + soaW x0 (L.drop (i + 1)) by omega]
        exact ih
      · simp only [if_neg (fun e => ca ((tl_eq _ _).1 e)), if_neg ca]
        have ih := rule0 x0 L ha hL hs hX m (i + 1) (s + 1 + 1) (by omega) (by omega) (by omega)
        rw [show s + (2 + soaW x0 (L.drop (i + 1))) = s + 1 + 1 + soaW x0 (L.drop (i + 1)) by omega]
        exact ih
    · simp only [if_neg c6]
      have ih := rule0 x0 L ha hL hs hX m (i + 1) s (by omega) (by omega) (by omega)
      rw [show s + (0 + soaW x0 (L.drop (i + 1))) = s + soaW x0 (L.drop (i + 1)) by omega]
      exact ih
  · simp only [if_neg c, Bool.eq_false_iff.mpr c, Bool.not_false, Bool.true_or, if_true]
    exact Ev.now _
/-- What the reference's l6Rule returns. -/
theorem specRule_ev (x0 : ByteArray) (L : List ZRec) (ha : x0.size ≤ 1048576) (hL : L.length < 1099511627776) (hs : ∀ r ∈ L, r.f0.size ≤ 1048576) : Ev (fun k => spec_l6Rule.f k x0 L) (ruleS x0 L) := by
 have h2 := rule2 x0 L ha hL hs L.length 0 (by omega)
 rw [List.take_zero, List.drop_zero] at h2
 have h0 := rule0 x0 L ha hL hs (rule1F x0 L hL h2) L.length 0 0 (by omega) (by omega) (by omega)
 rw [List.drop_zero, Int.zero_add] at h0
 exact Ev.congr (fun k => rfl) h0
end Go.Proofs.YtkpkfallgjdkmaaGreatDoor.Pure
