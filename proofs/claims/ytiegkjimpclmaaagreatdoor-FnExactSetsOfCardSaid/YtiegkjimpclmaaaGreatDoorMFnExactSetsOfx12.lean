/- FnExactSetsOf: part 13 of 28 of my texts for this claim, joined; the theorem stands in the last. Conditions: none beyond the statement's. -/
import Derived.Test.YtiegkjimpclmaaaGreatDoorMFnExactSetsOfx9
namespace Go.Proofs.YtiegkjimpclmaaaGreatDoor.P
open Go.RowKit Go.Proofs.YtiegkjimpclmaaaGreatDoorW.PrintWords Go.Proofs.YtiegkjimpclmaaaGreatDoorW.PrintLast Go.Proofs.YtiegkjimpclmaaaGreatDoorW.PrintMore
set_option linter.unusedVariables false
set_option linter.unusedSimpArgs false
abbrev SSet := S83
abbrev kSet := k83
def laws_markSetS.l0 : Nat → List SSet → Int → Int → Option (Int × List SSet)
  | 0, _, _, _ => none
  | k + 1, x0, x1, x5 => if x5 < (x0.length : Int) then ((laws_markText.f k x1).bind fun t => (if 0 ≤ x5 then ((laws_markStringS.f k (rd_T83 x0 x5).f3 (wrap64 ((wrap64 ((wrap64 (x1 + 1)) + 1)) + 1))).bind fun q => laws_markSetS.l0 k (x0.set (x5 : Int).toNat (⟨t, wrap64 (x1 + 1), wrap64 ((wrap64 (x1 + 1)) + 1), q.2⟩ : SSet)) q.1 (wrap64 (x5 + 1))) else none)) else some (x1, x0)
def laws_markSetS.f (k : Nat) (l0 : List SSet) (a1 : Int) : Option (Int × List SSet) := laws_markSetS.l0 k l0 a1 0
section
variable {W w1 : World} {base g n cap : Nat} {ok oki : Nat → Prop} {xs : List SSet} {i : Int} {c : List Value}
theorem hole_cells (hH : Kd.H kSet 83 W base ok (.slice (some ⟨g, 0, none⟩) n cap) xs i oki c) (h0 : 0 ≤ i) (h1 : i < n) : ∀ j u, c[j]? = some u → W.cell? ⟨g, i.toNat * 4 + j, none⟩ = some u := by
  obtain ⟨rows, _, _, _, _, hcc, _⟩ := Kd.H_raw hH h0 h1
  exact hcc
theorem hole_store (hH : Kd.H kSet 83 W base ok (.slice (some ⟨g, 0, none⟩) n cap) xs i oki c) (h0 : 0 ≤ i) (h1 : i < n) {v3 : Value} {l3 : List ByteArray} (hR : Kd.string.R 9 W base oki v3 l3) (hng : ∀ k, oki k → k ≠ g) (j : Nat) (u : Value) (hj : j < 4) (hu : u.oneCell' = true) :
    Kd.H kSet 83 (W.setCell ⟨g, i.toNat * 4 + j, none⟩ u) base ok (.slice (some ⟨g, 0, none⟩) n cap) xs i oki (c.take j ++ [u] ++ c.drop (j + 1)) ∧ Kd.string.R 9 (W.setCell ⟨g, i.toNat * 4 + j, none⟩ u) base oki v3 l3 ∧ W.grownBy (W.setCell ⟨g, i.toNat * 4 + j, none⟩ u) (some g) := by
  obtain ⟨h2, h3⟩ := Kd.H_seg hH h0 h1 (seg := [u]) (j := j) (show j + 1 ≤ 4 by omega) (fun q hq => by rw [List.mem_singleton.1 hq]; exact hu)
  exact ⟨h2, Kd.R_far (p := ⟨g, i.toNat * 4 + j, none⟩) hR (fun k hk => hng k hk) u, h3⟩
end
set_option maxHeartbeats 8000000 in
set_option maxRecDepth 100000 in
theorem laws_markSetS.calls (k : Nat) (P0_ : Nat → Prop) (u9000_ : Value) (l0 : List SSet) (a1 : Int) (r1 : Int) (r2 : List SSet) (w0 w : World) (hB : Below w0.heap.size w0 w) (ho0 : Kd.S kSet 83 w w0.heap.size P0_ u9000_ l0) (h : laws_markSetS.f k l0 a1 = some (r1, r2)) :
    Calls Tryz.prog 18 #[u9000_, .int .i64 a1] w fun e w' => e = .returned (.int .i64 r1) ∧ Kd.S kSet 83 w' w0.heap.size P0_ u9000_ r2 ∧ Below w0.heap.size w0 w' ∧ Kept w w' P0_ := by
  have HO0 := Aside0.mk ho0
  have HK := Aside0.mk (Kept.refl w P0_)
  have HB := Aside0.mk hB
  clear hB ho0
  have H' := Aside0.mk (show laws_markSetS.l0 k l0 a1 0 = some (r1, r2) from h)
  clear h
  go_enter Tryz.func18, Tryz.ntmps18
  go_wp2
  go_loopg [1, 5] k (fun kq v1 v5 w' => ∃ (x0_1 : List SSet) (x1_1 : Int) (x5_1 : Int), v1 = .int .i64 x1_1 ∧ v5 = .int .i64 x5_1 ∧ Aside0 (laws_markSetS.l0 kq x0_1 x1_1 x5_1 = some (r1, r2)) ∧ Aside0 (kq ≤ k) ∧ Aside0 (Kd.S kSet 83 w' w0.heap.size P0_ u9000_ x0_1) ∧ Aside0 (Kept w w' P0_) ∧ Aside0 (Below w0.heap.size w0 w'))
  case atStart => exact ⟨l0, a1, 0, rfl, rfl, H', ⟨Nat.le_refl _⟩, HO0, HK, HB⟩
  case round =>
    clear H' HO0 HK HB
    obtain ⟨x0_1, x1_1, x5_1, rfl, rfl, HA, HK1, HO, HK, HB⟩ := hrel
    cases gk with
    | zero => exact absurd HA.out (by simp [laws_markSetS.l0])
    | succ k1 =>
      have H := HA.out
      clear HA
      simp only [laws_markSetS.l0] at H
      obtain ⟨Ao, co, eo⟩ := Kd.S_slice HO.out
      subst eo
      by_cases c3 : x5_1 < (x0_1.length : Int)
      · rw [if_pos c3] at H
        obtain ⟨t, A4, H⟩ := Option.bind_eq_some_iff.mp H
        by_cases c5 : 0 ≤ x5_1
        · rw [if_pos c5] at H
          obtain ⟨⟨q1, q2⟩, A6, H⟩ := Option.bind_eq_some_iff.mp H
          replace A4 := Aside0.mk A4
          replace A6 := Aside0.mk A6
          have H' := Aside0.mk H
          clear H
          obtain ⟨go, co2, eo2, gb, gl, _⟩ := Kd.S_form HO.out (by omega)
          cases eo2
          have GB := Aside0.mk gb
          have PG := Aside0.mk ((Kd.S_R HO.out).1 go rfl)
          have P6 := Aside0.mk c5
          have Q6 := Aside0.mk c3
          clear gb gl
          have c3b : decide (x5_1 < (x0_1.length : Int)) = true := decide_eq_true c3
          replace c5 := eq_true c5
          replace c3 := eq_true c3
          go_wp2_with (first
            | ((with_reducible refine gate_callee (f := 69) rfl ?_); refine goesL_ (some 15) rfl rfl Tryz.func69 (by kernel_rfl) rfl #[.int .i64 x1_1] rfl (by (try simp only [List.map_toArray, List.map_cons, List.map_nil]); first | done | rfl) ?_; (with_reducible refine (laws_markText.calls k1 x1_1 t _ A4.out).mono ?_); rintro e w12 ⟨rfl, hb⟩; refine ⟨_, rfl, ?_⟩
               have HO2 := Kd.S_below HO.out hb
               have HK2 := Aside0.mk (Kept.below HK.out hb)
               have HB2 := Aside0.mk (below_step HB.out hb)
               clear HO HK HB hb
               obtain ⟨oki, c, hcl, hM, hcc, hfr, hoki, hH⟩ := Kd.S_elem HO2 z83 x5_1 P6.out Q6.out
               obtain ⟨v3, rfl, hR⟩ := k83_openM hM
               clear hcl hM HO2
               have HH := Aside0.mk hH
               have HR := Aside0.mk (show Kd.string.R 9 w12 w0.heap.size oki v3 (rd_T83 x0_1 x5_1).f3 from hR)
               have HI := Aside0.mk hoki
               have hx0 : w12.cell? ⟨go, x5_1.toNat * 4, none⟩ = some (.string (rd_T83 x0_1 x5_1).f0) := hcc 0 _ rfl
               have hf0 : w12.frozen? ⟨go, x5_1.toNat * 4, none⟩ = false := hfr 0
               have HF := Aside0.mk hfr
               clear hcc hfr hoki hH hR)
            | ((with_reducible refine gate_store (t := 9) (p := 17) rfl ?_); refine store_event (t := 9) (p := 17) (v := ?vo_w14) (w1 := (w12.setCell ⟨go, x5_1.toNat * 4, none⟩ (.string t))) ?hg ?ho ?hn ?hr ?_; (case ho => rfl); (case hg => rfl); (case hn => rfl); (case hr => first | (go_simp; done) | (go_simp; rfl)); intro w14 hw
               obtain ⟨h2, h3, h4⟩ := hole_store HH.out P6.out Q6.out HR.out (fun k hk => (HI.out k hk).2) 0 (.string t) (by omega) rfl
               rw [Nat.add_zero] at h2 h3 h4
               rw [← hw] at h2 h3 h4
               have HH2 := Aside0.mk h2
               have HR2 := Aside0.mk h3
               have HK3 := Aside0.mk (Kept.of_grown h4 HK2.out (fun k_ e_ => .inl (by injection e_ with e_; rw [← e_]; exact PG.out)))
               have HB3 := Aside0.mk (by rw [hw]; exact below_set HB2.out GB.out : Below w0.heap.size w0 w14)
               have HF2 := Aside0.mk (fun j => (by rw [hw, World.frozen?_setCell]; exact HF.out j : w14.frozen? ⟨go, x5_1.toNat * 4 + j, none⟩ = false))
               have hx1 : w14.cell? ⟨go, x5_1.toNat * 4 + 1, none⟩ = some (.int .i64 (rd_T83 x0_1 x5_1).f1) := hole_cells h2 P6.out Q6.out 1 _ rfl
               have hf1 : w14.frozen? ⟨go, x5_1.toNat * 4 + 1, none⟩ = false := HF2.out 1
               clear HH HR HK2 HB2 HF h2 h3 h4 hx0 hf0 hw)
            | ((with_reducible refine gate_store (t := 3) (p := 24) rfl ?_); refine store_event (t := 3) (p := 24) (v := ?vo_w15) (w1 := (w14.setCell ⟨go, x5_1.toNat * 4 + 1, none⟩ (.int .i64 (wrap64 (x1_1 + 1))))) ?hg ?ho ?hn ?hr ?_; (case ho => rfl); (case hg => rfl); (case hn => rfl); (case hr => first | (go_simp; done) | (go_simp; rfl)); intro w15 hw
               obtain ⟨h2, h3, h4⟩ := hole_store HH2.out P6.out Q6.out HR2.out (fun k hk => (HI.out k hk).2) 1 (.int .i64 (wrap64 (x1_1 + 1))) (by omega) rfl
               rw [← hw] at h2 h3 h4
               have HH3 := Aside0.mk h2
               have HR3 := Aside0.mk h3
               have HK4 := Aside0.mk (Kept.of_grown h4 HK3.out (fun k_ e_ => .inl (by injection e_ with e_; rw [← e_]; exact PG.out)))
               have HB4 := Aside0.mk (by rw [hw]; exact below_set HB3.out GB.out : Below w0.heap.size w0 w15)
               have HF3 := Aside0.mk (fun j => (by rw [hw, World.frozen?_setCell]; exact HF2.out j : w15.frozen? ⟨go, x5_1.toNat * 4 + j, none⟩ = false))
               have hx2 : w15.cell? ⟨go, x5_1.toNat * 4 + 2, none⟩ = some (.int .i64 (rd_T83 x0_1 x5_1).f2) := hole_cells h2 P6.out Q6.out 2 _ rfl
               have hf2 : w15.frozen? ⟨go, x5_1.toNat * 4 + 2, none⟩ = false := HF3.out 2
               clear HH2 HR2 HK3 HB3 HF2 h2 h3 h4 hx1 hf1 hw)
            | ((with_reducible refine gate_store (t := 3) (p := 31) rfl ?_); refine store_event (t := 3) (p := 31) (v := ?vo_w16) (w1 := (w15.setCell ⟨go, x5_1.toNat * 4 + 2, none⟩ (.int .i64 (wrap64 ((wrap64 (x1_1 + 1)) + 1))))) ?hg ?ho ?hn ?hr ?_; (case ho => rfl); (case hg => rfl); (case hn => rfl); (case hr => first | (go_simp; done) | (go_simp; rfl)); intro w16 hw
               obtain ⟨h2, h3, h4⟩ := hole_store HH3.out P6.out Q6.out HR3.out (fun k hk => (HI.out k hk).2) 2 (.int .i64 (wrap64 ((wrap64 (x1_1 + 1)) + 1))) (by omega) rfl
               rw [← hw] at h2 h3 h4
               have HH4 := Aside0.mk h2
               have HR4 := Aside0.mk h3
               have HK5 := Aside0.mk (Kept.of_grown h4 HK4.out (fun k_ e_ => .inl (by injection e_ with e_; rw [← e_]; exact PG.out)))
               have HB5 := Aside0.mk (by rw [hw]; exact below_set HB4.out GB.out : Below w0.heap.size w0 w16)
               have hx3 : w16.cell? ⟨go, x5_1.toNat * 4 + 3, none⟩ = some v3 := hole_cells h2 P6.out Q6.out 3 _ rfl
               clear HH3 HR3 HK4 HB4 HF3 h2 h3 h4 hx2 hf2 hw)
            | ((with_reducible refine gate_callee (f := 70) rfl ?_); refine goesL_ (some 40) rfl rfl Tryz.func70 (by kernel_rfl) rfl #[v3, .int .i64 (wrap64 ((wrap64 ((wrap64 (x1_1 + 1)) + 1)) + 1))] rfl (by (try simp only [List.map_toArray, List.map_cons, List.map_nil]); first | done | rfl) ?_; (with_reducible refine (laws_markStringS.calls k1 oki v3 _ _ q1 q2 w0 _ HB5.out HR4.out A6.out).mono ?_); rintro e w20 ⟨rfl, hr, hb, hk⟩; refine ⟨_, rfl, ?_⟩
               have hR5 := Kd.R_reok (ok := oki) rfl hr (fun k hk => HR4.out.1 k hk)
               have hH5 := Kd.H_kept HH4.out hk (fun k _ hn => hn)
               have HO6 := Aside0.mk (Kd.H_back hH5 (k83_mkM w20 w0.heap.size oki (⟨t, wrap64 (x1_1 + 1), wrap64 ((wrap64 (x1_1 + 1)) + 1), q2⟩ : SSet) hR5) (fun _ hk => hk))
               have HK6 := Aside0.mk (HK5.out.then_ hk (fun k hk => .inl (HI.out k hk).1))
               have HB6 := Aside0.mk hb
               clear HH4 HR4 HK5 HB5 hR5 hH5 hr hk hb hx3))
          go_roundg k1
          case measure => have := HK1.out; omega
          case rel => exact ⟨_, q1, wrap64 (x5_1 + 1), rfl, rfl, H', ⟨by have := HK1.out; omega⟩, HO6, HK6, HB6⟩
        · rw [if_neg c5] at H
          exact absurd H (by simp)
      · rw [if_neg c3] at H
        have c3b0 : decide (x5_1 < (x0_1.length : Int)) = false := decide_eq_false c3
        clear c3
        simp only [Option.some.injEq, Prod.mk.injEq] at H
        obtain ⟨rfl, rfl⟩ := H
        go_wp2
        go_ret
        exact ⟨rfl, HO.out, HB.out, HK.out⟩
end Go.Proofs.YtiegkjimpclmaaaGreatDoor.P
namespace Go.Proofs.YtiegkjimpclmaaaGreatDoor.P
open Go.RowKit Go.Proofs.YtiegkjimpclmaaaGreatDoorW.PrintWords Go.Proofs.YtiegkjimpclmaaaGreatDoorW.PrintLast Go.Proofs.YtiegkjimpclmaaaGreatDoorW.PrintMore
attribute [local go_sem] max2_int min2_int max_two min_two max_three min_three max_four min_four
set_option linter.unusedVariables false
set_option linter.unusedSimpArgs false
def laws_eqSetS.l0 : Nat → List (S83) → List (S83) → Int → Option (Bool)
 | 0, _, _, _ => none
 | k + 1, x0, x1, x5 => if x5 < (x0.length : Int) then (if 0 ≤ x5 then (if x5 < (x1.length : Int) then ((laws_eqSet.f k ((rd_T83 x0 x5).f0) ((rd_T83 x0 x5).f1) ((rd_T83 x0 x5).f2) ((rd_T83 x0 x5).f3) ((rd_T83 x1 x5).f0) ((rd_T83 x1 x5).f1) ((rd_T83 x1 x5).f2) ((rd_T83 x1 x5).f3)).bind fun t450 => (if t450 = true then (laws_eqSetS.l0 k x0 x1 (wrap64 (x5 + 1))) else (some false))) else (none)) else (none)) else (some true)
def laws_eqSetS.f (k : Nat) (l0 : List (S83)) (l1 : List (S83)) : Option (Bool) := if (l0.length : Int) = (l1.length : Int) then (laws_eqSetS.l0 k l0 l1 0) else (some false)
def laws_eqSetS.T6 : Bool × List (List Nat × List Nat) := (true, [([], []), ([], []), ([0, 1], [0, 1]), ([2], [2]), ([], []), ([], []), ([4, 5], [4, 5]), ([6], [6]), ([3, 7], [3, 7]), ([8], [8])])
def laws_eqSetS.B6 : List Nat := [0, 0, 3, 7, 0, 0, 48, 112, 255, 511]
theorem laws_eqSetS.tab6 : rtab .any (opsOf Tryz.f17 6) = laws_eqSetS.T6 := by kernel_rfl
theorem laws_eqSetS.bits6 : waitsOk laws_eqSetS.T6.2 laws_eqSetS.B6 = true := by kernel_rfl
set_option maxHeartbeats 8000000 in
set_option maxRecDepth 100000 in
theorem laws_eqSetS.calls (k : Nat) (A0 : Option Addr) (c0 : Nat) (l0 : List (S83)) (A1 : Option Addr) (c1 : Nat) (l1 : List (S83)) (r : Bool) (w : World) (hr0 : Kd.C k83 w A0 l0.length l0) (hc0 : l0.length ≤ c0) (hr1 : Kd.C k83 w A1 l1.length l1) (hc1 : l1.length ≤ c1) (h : laws_eqSetS.f k l0 l1 = some r) :
 Calls Tryz.prog 17 #[.slice A0 l0.length c0, .slice A1 l1.length c1] w fun e w' => e = .returned (.bool r) ∧ Below w.heap.size w w' := by
 have hu83 := Tryz.underlying83
 have HR0 := a0_ hr0
 have HC0 := a0_ hc0
 clear hr0 hc0
 have HR1 := a0_ hr1
 have HC1 := a0_ hc1
 clear hr1 hc1
 have HB := a0_ (Below.refl w.heap.size w)
 have H := h
 clear h
 unfold laws_eqSetS.f at H
 by_cases c3 : (l0.length : Int) = (l1.length : Int)
 case neg =>
  rw [if_neg c3] at H
  have c3b0 := beq_eq_false_iff_ne.mpr c3
  have c3b1 := bne_iff_ne.mpr c3
  have c3b2 : (l0.length == l1.length) = false := by first | simpa using c3 | (simp at c3 ⊢; omega)
  obtain rfl := Option.some.inj H
  go_enter Tryz.func17, Tryz.ntmps17
  go_wp2
  go_ret
  exact ⟨rr_, bq0_⟩
 rw [if_pos c3] at H
 have c3b0 := beq_iff_eq.mpr c3
 have c3b1 := bne_eq_false_iff_eq.mpr c3
 have c3b2 : (l0.length == l1.length) = true := by first | simpa using c3 | (simp at c3 ⊢; omega)
 clear c3
 have H' := a0_ H
 clear H
 go_enter Tryz.func17, Tryz.ntmps17
 go_wp2
 go_loopg [5] k (fun kq v5 w' => ∃ (x5_1 : Int), v5 = .int .i64 x5_1 ∧ Aside0 (laws_eqSetS.l0 kq l0 l1 x5_1 = some r) ∧ Aside0 (kq ≤ k) ∧ Aside0 (Below w.heap.size w w'))
 case atStart => exact ⟨(0), rs_, H', ⟨Nat.le_refl _⟩, ⟨bq0_⟩⟩
 case round =>
  clear H'
  try clear c1
  try clear c3
  try clear c3b0
  try clear c3b1
  try clear c3b2
  obtain ⟨x5_1, rfl, HA, HK1, HB⟩ := hrel
  cases gk with
  | zero => exact absurd HA.out (by simp [laws_eqSetS.l0])
  | succ k1 =>
   have H := HA.out
   clear HA
   simp only [laws_eqSetS.l0] at H
   by_cases c4 : x5_1 < (l0.length : Int)
   case neg =>
    rw [if_neg c4] at H
    have c4b0 := decide_eq_false c4
    clear c4
    obtain rfl := Option.some.inj H
    go_wp2
    go_ret
    exact ⟨rr_, bq0_⟩
   rw [if_pos c4] at H
   have c4b0 := decide_eq_true c4
   clear c4
   by_cases c5 : 0 ≤ x5_1
   case neg =>
    rw [if_neg c5] at H
    exact absurd H (by simp)
   rw [if_pos c5] at H
   have c5b0 := decide_eq_true c5
   clear c5
   by_cases c6 : x5_1 < (l1.length : Int)
   case neg =>
    rw [if_neg c6] at H
    exact absurd H (by simp)
   rw [if_pos c6] at H
   have c6b0 := decide_eq_true c6
   clear c6
   obtain ⟨t450, A70, H⟩ := Option.bind_eq_some_iff.mp H
   have A7 := a0_ A70
   clear A70
   by_cases c8 : t450 = true
   case neg =>
    replace c8 := Bool.eq_false_iff.mpr c8
    subst c8
    rw [if_neg (show ¬ (false = true) by decide)] at H
    obtain rfl := Option.some.inj H
    try go_wp2
    replace HB := a0_ (below_drew1 HB.out)
    have p448 : 0 ≤ (x5_1 : Int) := dec_
    have q448 : x5_1 < (l0.length : Int) := dec_
    obtain ⟨ad448, A448_3, c448_3, e448, hx448_0, hx448_1, hx448_2, hx448_3, hl448_3, hi448_3⟩ := at_T83 HR0.out x5_1 p448 q448
    have hw448_3 := hx448_3
    have hw448_2 := hx448_2
    have hw448_1 := hx448_1
    have hw448_0 := hx448_0
    cases e448
    obtain ⟨hx448_0, hx448_1, hx448_2, hx448_3⟩ := up4_ HB.out hx448_0 hx448_1 hx448_2 hx448_3
    have HR448_3 := a0_ hi448_3
    have HC448_3 := a0_ hl448_3
    clear hi448_3 hl448_3
    replace p448 := eq_true p448
    replace q448 := eq_true q448
    have p449 : 0 ≤ (x5_1 : Int) := dec_
    have q449 : x5_1 < (l1.length : Int) := dec_
    obtain ⟨ad449, A449_3, c449_3, e449, hx449_0, hx449_1, hx449_2, hx449_3, hl449_3, hi449_3⟩ := at_T83 HR1.out x5_1 p449 q449
    have hw449_3 := hx449_3
    have hw449_2 := hx449_2
    have hw449_1 := hx449_1
    have hw449_0 := hx449_0
    cases e449
    obtain ⟨hx449_0, hx449_1, hx449_2, hx449_3⟩ := up4_ HB.out hx449_0 hx449_1 hx449_2 hx449_3
    have HR449_3 := a0_ hi449_3
    have HC449_3 := a0_ hl449_3
    clear hi449_3 hl449_3
    replace p449 := eq_true p449
    replace q449 := eq_true q449
    refine start_ (n := 10) (S := fun w' => w'.cell? (ad448.add ((x5_1).toNat * 4)) = some (.string ((rd_T83 l0 x5_1).f0)) ∧ w'.cell? ⟨(ad448.add ((x5_1).toNat * 4)).block, (ad448.add ((x5_1).toNat * 4)).off + 1, none⟩ = some (.int .i64 ((rd_T83 l0 x5_1).f1)) ∧ w'.cell? ⟨(ad448.add ((x5_1).toNat * 4)).block, (ad448.add ((x5_1).toNat * 4)).off + 2, none⟩ = some (.int .i64 ((rd_T83 l0 x5_1).f2)) ∧ w'.cell? ⟨(ad448.add ((x5_1).toNat * 4)).block, (ad448.add ((x5_1).toNat * 4)).off + 3, none⟩ = some (.slice A448_3 ((rd_T83 l0 x5_1).f3).length c448_3) ∧ w'.cell? (ad449.add ((x5_1).toNat * 4)) = some (.string ((rd_T83 l1 x5_1).f0)) ∧ w'.cell? ⟨(ad449.add ((x5_1).toNat * 4)).block, (ad449.add ((x5_1).toNat * 4)).off + 1, none⟩ = some (.int .i64 ((rd_T83 l1 x5_1).f1)) ∧ w'.cell? ⟨(ad449.add ((x5_1).toNat * 4)).block, (ad449.add ((x5_1).toNat * 4)).off + 2, none⟩ = some (.int .i64 ((rd_T83 l1 x5_1).f2)) ∧ w'.cell? ⟨(ad449.add ((x5_1).toNat * 4)).block, (ad449.add ((x5_1).toNat * 4)).off + 3, none⟩ = some (.slice A449_3 ((rd_T83 l1 x5_1).f3).length c449_3)) (ds := []) #[false, false, false, false, false, false, false, false, false, false] (by kernel_rfl) rfl rfl ⟨((HB.out.cell (World.block_lt_of_cell? w _ hw448_0)).trans hw448_0), ((HB.out.cell (World.block_lt_of_cell? w _ hw448_1)).trans hw448_1), ((HB.out.cell (World.block_lt_of_cell? w _ hw448_2)).trans hw448_2), ((HB.out.cell (World.block_lt_of_cell? w _ hw448_3)).trans hw448_3), ((HB.out.cell (World.block_lt_of_cell? w _ hw449_0)).trans hw449_0), ((HB.out.cell (World.block_lt_of_cell? w _ hw449_1)).trans hw449_1), ((HB.out.cell (World.block_lt_of_cell? w _ hw449_2)).trans hw449_2), ((HB.out.cell (World.block_lt_of_cell? w _ hw449_3)).trans hw449_3)⟩ (fun hHeld => ?_); refine with_tabW laws_eqSetS.tab6 laws_eqSetS.bits6 (fun HT_ HW_ => ?_)
    generalize wr.drew = w11 at HB HR448_3 HR449_3 hx448_0 hx448_1 hx448_2 hx448_3 hx449_0 hx449_1 hx449_2 hx449_3 hHeld ⊢
    refine pureS_ 0 (some 17) ?_
    refine pureS_ 1 (some 18) ?_
    refine pureS_ 2 (some 19) ?_
    refine pureS_ 4 (some 21) ?_
    refine pureS_ 5 (some 22) ?_
    refine pureS_ 6 (some 23) ?_
    refine takeS_ 3 (some 20) ?_
    refine takeS_ 7 (some 24) ?_
    refine oneS_ 8 (some 25) (fun K hK => ?_)
    refine goes_ Tryz.func68 (by kernel_rfl) rfl #[.agg #[.string ((rd_T83 l0 x5_1).f0), .int .i64 ((rd_T83 l0 x5_1).f1), .int .i64 ((rd_T83 l0 x5_1).f2), .slice A448_3 ((rd_T83 l0 x5_1).f3).length c448_3], .agg #[.string ((rd_T83 l1 x5_1).f0), .int .i64 ((rd_T83 l1 x5_1).f1), .int .i64 ((rd_T83 l1 x5_1).f2), .slice A449_3 ((rd_T83 l1 x5_1).f3).length c449_3]] (by rfl) rfl rfl argsS_ ?_
    with_reducible refine (laws_eqSet.calls k1 ((rd_T83 l0 x5_1).f0) ((rd_T83 l0 x5_1).f1) ((rd_T83 l0 x5_1).f2) _ _ ((rd_T83 l0 x5_1).f3) ((rd_T83 l1 x5_1).f0) ((rd_T83 l1 x5_1).f1) ((rd_T83 l1 x5_1).f2) _ _ ((rd_T83 l1 x5_1).f3) false _ ?side1 ?side2 ?side3 ?side4 A7.out).mono ?_
    (case side1 => exact kC_ HR448_3.out HB.out)
    (case side2 => exact HC448_3.out)
    (case side3 => exact kC_ HR449_3.out HB.out)
    (case side4 => exact HC449_3.out)
    rintro e w12 ⟨rfl, hb⟩
    refine ⟨_, rfl, ?_⟩
    replace HB := a0_ (below_step bq0_ hb)
    (try clear hb)
    (try clear hb2)
    (try clear hk)
    (try clear hi)
    refine hK.out _ _ ⟨((HB.out.cell (World.block_lt_of_cell? w _ hw448_0)).trans hw448_0), ((HB.out.cell (World.block_lt_of_cell? w _ hw448_1)).trans hw448_1), ((HB.out.cell (World.block_lt_of_cell? w _ hw448_2)).trans hw448_2), ((HB.out.cell (World.block_lt_of_cell? w _ hw448_3)).trans hw448_3), ((HB.out.cell (World.block_lt_of_cell? w _ hw449_0)).trans hw449_0), ((HB.out.cell (World.block_lt_of_cell? w _ hw449_1)).trans hw449_1), ((HB.out.cell (World.block_lt_of_cell? w _ hw449_2)).trans hw449_2), ((HB.out.cell (World.block_lt_of_cell? w _ hw449_3)).trans hw449_3)⟩ (fun hHeld => ?_)
    clear hK K
    refine normS_ ?_
    refine pureS_ 9 (some 26) ?_
    refine done_ (done_of HT_.out (by kernel_rfl)) ?_
    try go_wp2
    go_ret
    exact ⟨rr_, bq0_⟩
   subst c8
   rw [if_pos rfl] at H
   have H' := a0_ H
   clear H
   try go_wp2
   replace HB := a0_ (below_drew1 HB.out)
   have p448 : 0 ≤ (x5_1 : Int) := dec_
   have q448 : x5_1 < (l0.length : Int) := dec_
   obtain ⟨ad448, A448_3, c448_3, e448, hx448_0, hx448_1, hx448_2, hx448_3, hl448_3, hi448_3⟩ := at_T83 HR0.out x5_1 p448 q448
   have hw448_3 := hx448_3
   have hw448_2 := hx448_2
   have hw448_1 := hx448_1
   have hw448_0 := hx448_0
   cases e448
   obtain ⟨hx448_0, hx448_1, hx448_2, hx448_3⟩ := up4_ HB.out hx448_0 hx448_1 hx448_2 hx448_3
   have HR448_3 := a0_ hi448_3
   have HC448_3 := a0_ hl448_3
   clear hi448_3 hl448_3
   replace p448 := eq_true p448
   replace q448 := eq_true q448
   have p449 : 0 ≤ (x5_1 : Int) := dec_
   have q449 : x5_1 < (l1.length : Int) := dec_
   obtain ⟨ad449, A449_3, c449_3, e449, hx449_0, hx449_1, hx449_2, hx449_3, hl449_3, hi449_3⟩ := at_T83 HR1.out x5_1 p449 q449
   have hw449_3 := hx449_3
   have hw449_2 := hx449_2
   have hw449_1 := hx449_1
   have hw449_0 := hx449_0
   cases e449
   obtain ⟨hx449_0, hx449_1, hx449_2, hx449_3⟩ := up4_ HB.out hx449_0 hx449_1 hx449_2 hx449_3
   have HR449_3 := a0_ hi449_3
   have HC449_3 := a0_ hl449_3
   clear hi449_3 hl449_3
   replace p449 := eq_true p449
   replace q449 := eq_true q449
   refine start_ (n := 10) (S := fun w' => w'.cell? (ad448.add ((x5_1).toNat * 4)) = some (.string ((rd_T83 l0 x5_1).f0)) ∧ w'.cell? ⟨(ad448.add ((x5_1).toNat * 4)).block, (ad448.add ((x5_1).toNat * 4)).off + 1, none⟩ = some (.int .i64 ((rd_T83 l0 x5_1).f1)) ∧ w'.cell? ⟨(ad448.add ((x5_1).toNat * 4)).block, (ad448.add ((x5_1).toNat * 4)).off + 2, none⟩ = some (.int .i64 ((rd_T83 l0 x5_1).f2)) ∧ w'.cell? ⟨(ad448.add ((x5_1).toNat * 4)).block, (ad448.add ((x5_1).toNat * 4)).off + 3, none⟩ = some (.slice A448_3 ((rd_T83 l0 x5_1).f3).length c448_3) ∧ w'.cell? (ad449.add ((x5_1).toNat * 4)) = some (.string ((rd_T83 l1 x5_1).f0)) ∧ w'.cell? ⟨(ad449.add ((x5_1).toNat * 4)).block, (ad449.add ((x5_1).toNat * 4)).off + 1, none⟩ = some (.int .i64 ((rd_T83 l1 x5_1).f1)) ∧ w'.cell? ⟨(ad449.add ((x5_1).toNat * 4)).block, (ad449.add ((x5_1).toNat * 4)).off + 2, none⟩ = some (.int .i64 ((rd_T83 l1 x5_1).f2)) ∧ w'.cell? ⟨(ad449.add ((x5_1).toNat * 4)).block, (ad449.add ((x5_1).toNat * 4)).off + 3, none⟩ = some (.slice A449_3 ((rd_T83 l1 x5_1).f3).length c449_3)) (ds := []) #[false, false, false, false, false, false, false, false, false, false] (by kernel_rfl) rfl rfl ⟨((HB.out.cell (World.block_lt_of_cell? w _ hw448_0)).trans hw448_0), ((HB.out.cell (World.block_lt_of_cell? w _ hw448_1)).trans hw448_1), ((HB.out.cell (World.block_lt_of_cell? w _ hw448_2)).trans hw448_2), ((HB.out.cell (World.block_lt_of_cell? w _ hw448_3)).trans hw448_3), ((HB.out.cell (World.block_lt_of_cell? w _ hw449_0)).trans hw449_0), ((HB.out.cell (World.block_lt_of_cell? w _ hw449_1)).trans hw449_1), ((HB.out.cell (World.block_lt_of_cell? w _ hw449_2)).trans hw449_2), ((HB.out.cell (World.block_lt_of_cell? w _ hw449_3)).trans hw449_3)⟩ (fun hHeld => ?_); refine with_tabW laws_eqSetS.tab6 laws_eqSetS.bits6 (fun HT_ HW_ => ?_)
   generalize wr.drew = w9 at HB HR448_3 HR449_3 hx448_0 hx448_1 hx448_2 hx448_3 hx449_0 hx449_1 hx449_2 hx449_3 hHeld ⊢
   refine pureS_ 0 (some 17) ?_
   refine pureS_ 1 (some 18) ?_
   refine pureS_ 2 (some 19) ?_
   refine pureS_ 4 (some 21) ?_
   refine pureS_ 5 (some 22) ?_
   refine pureS_ 6 (some 23) ?_
   refine takeS_ 3 (some 20) ?_
   refine takeS_ 7 (some 24) ?_
   refine oneS_ 8 (some 25) (fun K hK => ?_)
   refine goes_ Tryz.func68 (by kernel_rfl) rfl #[.agg #[.string ((rd_T83 l0 x5_1).f0), .int .i64 ((rd_T83 l0 x5_1).f1), .int .i64 ((rd_T83 l0 x5_1).f2), .slice A448_3 ((rd_T83 l0 x5_1).f3).length c448_3], .agg #[.string ((rd_T83 l1 x5_1).f0), .int .i64 ((rd_T83 l1 x5_1).f1), .int .i64 ((rd_T83 l1 x5_1).f2), .slice A449_3 ((rd_T83 l1 x5_1).f3).length c449_3]] (by rfl) rfl rfl argsS_ ?_
   with_reducible refine (laws_eqSet.calls k1 ((rd_T83 l0 x5_1).f0) ((rd_T83 l0 x5_1).f1) ((rd_T83 l0 x5_1).f2) _ _ ((rd_T83 l0 x5_1).f3) ((rd_T83 l1 x5_1).f0) ((rd_T83 l1 x5_1).f1) ((rd_T83 l1 x5_1).f2) _ _ ((rd_T83 l1 x5_1).f3) true _ ?side1 ?side2 ?side3 ?side4 A7.out).mono ?_
   (case side1 => exact kC_ HR448_3.out HB.out)
   (case side2 => exact HC448_3.out)
   (case side3 => exact kC_ HR449_3.out HB.out)
   (case side4 => exact HC449_3.out)
   rintro e w10 ⟨rfl, hb⟩
   refine ⟨_, rfl, ?_⟩
   replace HB := a0_ (below_step bq0_ hb)
   (try clear hb)
   (try clear hb2)
   (try clear hk)
   (try clear hi)
   refine hK.out _ _ ⟨((HB.out.cell (World.block_lt_of_cell? w _ hw448_0)).trans hw448_0), ((HB.out.cell (World.block_lt_of_cell? w _ hw448_1)).trans hw448_1), ((HB.out.cell (World.block_lt_of_cell? w _ hw448_2)).trans hw448_2), ((HB.out.cell (World.block_lt_of_cell? w _ hw448_3)).trans hw448_3), ((HB.out.cell (World.block_lt_of_cell? w _ hw449_0)).trans hw449_0), ((HB.out.cell (World.block_lt_of_cell? w _ hw449_1)).trans hw449_1), ((HB.out.cell (World.block_lt_of_cell? w _ hw449_2)).trans hw449_2), ((HB.out.cell (World.block_lt_of_cell? w _ hw449_3)).trans hw449_3)⟩ (fun hHeld => ?_)
   clear hK K
   refine normS_ ?_
   refine pureS_ 9 (some 26) ?_
   refine done_ (done_of HT_.out (by kernel_rfl)) ?_
   try go_wp2
   go_roundg k1
   case measure => have := HK1.out; omega
   case rel => exact ⟨(wrap64 (x5_1 + 1)), rs_, H', ⟨by have := HK1.out; omega⟩, ⟨bq0_⟩⟩
end Go.Proofs.YtiegkjimpclmaaaGreatDoor.P
