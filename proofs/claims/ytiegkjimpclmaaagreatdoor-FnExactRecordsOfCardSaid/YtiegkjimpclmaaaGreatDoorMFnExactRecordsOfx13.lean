/- FnExactRecordsOf: part 14 of 28 of my texts for this claim, joined; the theorem stands in the last. Conditions: none beyond the statement's. -/
import Derived.Test.YtiegkjimpclmaaaGreatDoorMFnExactRecordsOfx8
import Derived.Test.YtiegkjimpclmaaaGreatDoorMFnExactRecordsOfx9
namespace Go.Proofs.YtiegkjimpclmaaaGreatDoor.P
open Go.RowKit Go.Proofs.YtiegkjimpclmaaaGreatDoorW.PrintWords Go.Proofs.YtiegkjimpclmaaaGreatDoorW.PrintLast Go.Proofs.YtiegkjimpclmaaaGreatDoorW.PrintMore
attribute [local go_sem] max2_int min2_int max_two min_two max_three min_three max_four min_four
set_option linter.unusedVariables false
set_option linter.unusedSimpArgs false
def laws_szRecordS.l0 : Nat → List (S91) → Int → Int → Option (Int)
 | 0, _, _, _ => none
 | k + 1, x0, x1, x5 => if x5 < (x0.length : Int) then (if 0 ≤ x5 then ((laws_szRecord.f ((rd_T91 x0 x5).f0) ((rd_T91 x0 x5).f1) ((rd_T91 x0 x5).f2) ((rd_T91 x0 x5).f3) x1).bind fun t491 => (if t491 < 0 then (some (-1)) else (laws_szRecordS.l0 k x0 t491 (wrap64 (x5 + 1))))) else (none)) else (some x1)
def laws_szRecordS.f (k : Nat) (l0 : List (S91)) (a1 : Int) : Option (Int) := if (wrap64 (a1 - (l0.length : Int))) < 0 then (some (-1)) else (laws_szRecordS.l0 k l0 (wrap64 (a1 - (l0.length : Int))) 0)
def laws_toRecordS.l0 : Nat → List (S91) → List (S45) → Int → Option ((List (S45)))
 | 0, _, _, _ => none
 | k + 1, x0, x3, x4 => if x4 < (x0.length : Int) then (if 0 ≤ x4 then ((laws_toRecord.f ((rd_T91 x0 x4).f0) ((rd_T91 x0 x4).f1) ((rd_T91 x0 x4).f2) ((rd_T91 x0 x4).f3)).bind fun bt530 => (if x4 < (x3.length : Int) then (laws_toRecordS.l0 k x0 (x3.set (x4 : Int).toNat (⟨bt530.1, bt530.2.1, bt530.2.2.1, bt530.2.2.2⟩ : S45)) (wrap64 (x4 + 1))) else (none))) else (none)) else (some x3)
def laws_toRecordS.f (k : Nat) (l0 : List (S91)) : Option ((List (S45))) := if 0 ≤ (l0.length : Int) then (if ((l0.length : Int) : Int).toNat ≤ 5864062014805 then (laws_toRecordS.l0 k l0 (List.replicate ((l0.length : Int) : Int).toNat z45) 0) else (none)) else (none)
end Go.Proofs.YtiegkjimpclmaaaGreatDoor.P
namespace Go.Proofs.YtiegkjimpclmaaaGreatDoor.P
open Go.RowKit Go.Proofs.YtiegkjimpclmaaaGreatDoorW.PrintWords Go.Proofs.YtiegkjimpclmaaaGreatDoorW.PrintLast Go.Proofs.YtiegkjimpclmaaaGreatDoorW.PrintMore
set_option linter.unusedVariables false
set_option linter.unusedSimpArgs false
abbrev SSet := S83
abbrev kSet := k83
def laws_markSetS.l0 : Nat → List SSet → Int → Int → Option (Int × List SSet)
  | 0, _, _, _ => none
  | k + 1, x0, x1, x5 => if x5 < (x0.length : Int) then ((laws_markText.f k x1).bind fun t => (if 0 ≤ x5 then ((laws_markStringS.f k (rd_T83 x0 x5).f3 (wrap64 ((wrap64 ((wrap64 (x1 + 1)) + 1)) + 1))).bind fun q => laws_markSetS.l0 k (x0.set (x5 : Int).toNat (⟨t, wrap64 (x1 + 1), wrap64 ((wrap64 (x1 + 1)) + 1), q.2⟩ : SSet)) q.1 (wrap64 (x5 + 1))) else none)) else some (x1, x0)
def laws_markSetS.f (k : Nat) (l0 : List SSet) (a1 : Int) : Option (Int × List SSet) := laws_markSetS.l0 k l0 a1 0
section
variable {W w1 : World} {base g n cap : Nat} {ok oki : Nat → Prop} {xs : List SSet} {i : Int} {c : List Value}
theorem hole_cells (hH : Kd.H kSet 83 W base ok (.slice (some ⟨g, 0, none⟩) n cap) xs i oki c) (h0 : 0 ≤ i) (h1 : i < n) : ∀ j u, c[j]? = some u → W.cell? ⟨g, i.toNat * 4 + j, none⟩ = some u := by
  obtain ⟨rows, _, _, _, _, hcc, _⟩ := Kd.H_raw hH h0 h1
  exact hcc
theorem hole_store (hH : Kd.H kSet 83 W base ok (.slice (some ⟨g, 0, none⟩) n cap) xs i oki c) (h0 : 0 ≤ i) (h1 : i < n) {v3 : Value} {l3 : List ByteArray} (hR : Kd.string.R 9 W base oki v3 l3) (hng : ∀ k, oki k → k ≠ g) (j : Nat) (u : Value) (hj : j < 4) (hu : u.oneCell' = true) :
    Kd.H kSet 83 (W.setCell ⟨g, i.toNat * 4 + j, none⟩ u) base ok (.slice (some ⟨g, 0, none⟩) n cap) xs i oki (c.take j ++ [u] ++ c.drop (j + 1)) ∧ Kd.string.R 9 (W.setCell ⟨g, i.toNat * 4 + j, none⟩ u) base oki v3 l3 ∧ W.grownBy (W.setCell ⟨g, i.toNat * 4 + j, none⟩ u) (some g) := by
  obtain ⟨h2, h3⟩ := Kd.H_seg hH h0 h1 (seg := [u]) (j := j) (show j + 1 ≤ 4 by omega) (fun q hq => by rw [List.mem_singleton.1 hq]; exact hu)
  exact ⟨h2, Kd.R_far (p := ⟨g, i.toNat * 4 + j, none⟩) hR (fun k hk => hng k hk) u, h3⟩
end
set_option maxHeartbeats 8000000 in
set_option maxRecDepth 100000 in
theorem laws_markSetS.calls (k : Nat) (P0_ : Nat → Prop) (u9000_ : Value) (l0 : List SSet) (a1 : Int) (r1 : Int) (r2 : List SSet) (w0 w : World) (hB : Below w0.heap.size w0 w) (ho0 : Kd.S kSet 83 w w0.heap.size P0_ u9000_ l0) (h : laws_markSetS.f k l0 a1 = some (r1, r2)) :
    Calls Tryz.prog 18 #[u9000_, .int .i64 a1] w fun e w' => e = .returned (.int .i64 r1) ∧ Kd.S kSet 83 w' w0.heap.size P0_ u9000_ r2 ∧ Below w0.heap.size w0 w' ∧ Kept w w' P0_ := by
  have HO0 := Aside0.mk ho0
  have HK := Aside0.mk (Kept.refl w P0_)
  have HB := Aside0.mk hB
  clear hB ho0
  have H' := Aside0.mk (show laws_markSetS.l0 k l0 a1 0 = some (r1, r2) from h)
  clear h
  go_enter Tryz.func18, Tryz.ntmps18
  go_wp2
  go_loopg [1, 5] k (fun kq v1 v5 w' => ∃ (x0_1 : List SSet) (x1_1 : Int) (x5_1 : Int), v1 = .int .i64 x1_1 ∧ v5 = .int .i64 x5_1 ∧ Aside0 (laws_markSetS.l0 kq x0_1 x1_1 x5_1 = some (r1, r2)) ∧ Aside0 (kq ≤ k) ∧ Aside0 (Kd.S kSet 83 w' w0.heap.size P0_ u9000_ x0_1) ∧ Aside0 (Kept w w' P0_) ∧ Aside0 (Below w0.heap.size w0 w'))
  case atStart => exact ⟨l0, a1, 0, rfl, rfl, H', ⟨Nat.le_refl _⟩, HO0, HK, HB⟩
  case round =>
    clear H' HO0 HK HB
    obtain ⟨x0_1, x1_1, x5_1, rfl, rfl, HA, HK1, HO, HK, HB⟩ := hrel
    cases gk with
    | zero => exact absurd HA.out (by simp [laws_markSetS.l0])
    | succ k1 =>
      have H := HA.out
      clear HA
      simp only [laws_markSetS.l0] at H
      obtain ⟨Ao, co, eo⟩ := Kd.S_slice HO.out
      subst eo
      by_cases c3 : x5_1 < (x0_1.length : Int)
      · rw [if_pos c3] at H
        obtain ⟨t, A4, H⟩ := Option.bind_eq_some_iff.mp H
        by_cases c5 : 0 ≤ x5_1
        · rw [if_pos c5] at H
          obtain ⟨⟨q1, q2⟩, A6, H⟩ := Option.bind_eq_some_iff.mp H
          replace A4 := Aside0.mk A4
          replace A6 := Aside0.mk A6
          have H' := Aside0.mk H
          clear H
          obtain ⟨go, co2, eo2, gb, gl, _⟩ := Kd.S_form HO.out (by omega)
          cases eo2
          have GB := Aside0.mk gb
          have PG := Aside0.mk ((Kd.S_R HO.out).1 go rfl)
          have P6 := Aside0.mk c5
          have Q6 := Aside0.mk c3
          clear gb gl
          have c3b : decide (x5_1 < (x0_1.length : Int)) = true := decide_eq_true c3
          replace c5 := eq_true c5
          replace c3 := eq_true c3
          go_wp2_with (first
            | ((with_reducible refine gate_callee (f := 69) rfl ?_); refine goesL_ (some 15) rfl rfl Tryz.func69 (by kernel_rfl) rfl #[.int .i64 x1_1] rfl (by (try simp only [List.map_toArray, List.map_cons, List.map_nil]); first | done | rfl) ?_; (with_reducible refine (laws_markText.calls k1 x1_1 t _ A4.out).mono ?_); rintro e w12 ⟨rfl, hb⟩; refine ⟨_, rfl, ?_⟩
               have HO2 := Kd.S_below HO.out hb
               have HK2 := Aside0.mk (Kept.below HK.out hb)
               have HB2 := Aside0.mk (below_step HB.out hb)
               clear HO HK HB hb
               obtain ⟨oki, c, hcl, hM, hcc, hfr, hoki, hH⟩ := Kd.S_elem HO2 z83 x5_1 P6.out Q6.out
               obtain ⟨v3, rfl, hR⟩ := k83_openM hM
               clear hcl hM HO2
               have HH := Aside0.mk hH
               have HR := Aside0.mk (show Kd.string.R 9 w12 w0.heap.size oki v3 (rd_T83 x0_1 x5_1).f3 from hR)
               have HI := Aside0.mk hoki
               have hx0 : w12.cell? ⟨go, x5_1.toNat * 4, none⟩ = some (.string (rd_T83 x0_1 x5_1).f0) := hcc 0 _ rfl
               have hf0 : w12.frozen? ⟨go, x5_1.toNat * 4, none⟩ = false := hfr 0
               have HF := Aside0.mk hfr
               clear hcc hfr hoki hH hR)
            | ((with_reducible refine gate_store (t := 9) (p := 17) rfl ?_); refine store_event (t := 9) (p := 17) (v := ?vo_w14) (w1 := (w12.setCell ⟨go, x5_1.toNat * 4, none⟩ (.string t))) ?hg ?ho ?hn ?hr ?_; (case ho => rfl); (case hg => rfl); (case hn => rfl); (case hr => first | (go_simp; done) | (go_simp; rfl)); intro w14 hw
               obtain ⟨h2, h3, h4⟩ := hole_store HH.out P6.out Q6.out HR.out (fun k hk => (HI.out k hk).2) 0 (.string t) (by omega) rfl
               rw [Nat.add_zero] at h2 h3 h4
               rw [← hw] at h2 h3 h4
               have HH2 := Aside0.mk h2
               have HR2 := Aside0.mk h3
               have HK3 := Aside0.mk (Kept.of_grown h4 HK2.out (fun k_ e_ => .inl (by injection e_ with e_; rw [← e_]; exact PG.out)))
               have HB3 := Aside0.mk (by rw [hw]; exact below_set HB2.out GB.out : Below w0.heap.size w0 w14)
               have HF2 := Aside0.mk (fun j => (by rw [hw, World.frozen?_setCell]; exact HF.out j : w14.frozen? ⟨go, x5_1.toNat * 4 + j, none⟩ = false))
               have hx1 : w14.cell? ⟨go, x5_1.toNat * 4 + 1, none⟩ = some (.int .i64 (rd_T83 x0_1 x5_1).f1) := hole_cells h2 P6.out Q6.out 1 _ rfl
               have hf1 : w14.frozen? ⟨go, x5_1.toNat * 4 + 1, none⟩ = false := HF2.out 1
               clear HH HR HK2 HB2 HF h2 h3 h4 hx0 hf0 hw)
            | ((with_reducible refine gate_store (t := 3) (p := 24) rfl ?_); refine store_event (t := 3) (p := 24) (v := ?vo_w15) (w1 := (w14.setCell ⟨go, x5_1.toNat * 4 + 1, none⟩ (.int .i64 (wrap64 (x1_1 + 1))))) ?hg ?ho ?hn ?hr ?_; (case ho => rfl); (case hg => rfl); (case hn => rfl); (case hr => first | (go_simp; done) | (go_simp; rfl)); intro w15 hw
               obtain ⟨h2, h3, h4⟩ := hole_store HH2.out P6.out Q6.out HR2.out (fun k hk => (HI.out k hk).2) 1 (.int .i64 (wrap64 (x1_1 + 1))) (by omega) rfl
               rw [← hw] at h2 h3 h4
               have HH3 := Aside0.mk h2
               have HR3 := Aside0.mk h3
               have HK4 := Aside0.mk (Kept.of_grown h4 HK3.out (fun k_ e_ => .inl (by injection e_ with e_; rw [← e_]; exact PG.out)))
               have HB4 := Aside0.mk (by rw [hw]; exact below_set HB3.out GB.out : Below w0.heap.size w0 w15)
               have HF3 := Aside0.mk (fun j => (by rw [hw, World.frozen?_setCell]; exact HF2.out j : w15.frozen? ⟨go, x5_1.toNat * 4 + j, none⟩ = false))
               have hx2 : w15.cell? ⟨go, x5_1.toNat * 4 + 2, none⟩ = some (.int .i64 (rd_T83 x0_1 x5_1).f2) := hole_cells h2 P6.out Q6.out 2 _ rfl
               have hf2 : w15.frozen? ⟨go, x5_1.toNat * 4 + 2, none⟩ = false := HF3.out 2
               clear HH2 HR2 HK3 HB3 HF2 h2 h3 h4 hx1 hf1 hw)
            | ((with_reducible refine gate_store (t := 3) (p := 31) rfl ?_); refine store_event (t := 3) (p := 31) (v := ?vo_w16) (w1 := (w15.setCell ⟨go, x5_1.toNat * 4 + 2, none⟩ (.int .i64 (wrap64 ((wrap64 (x1_1 + 1)) + 1))))) ?hg ?ho ?hn ?hr ?_; (case ho => rfl); (case hg => rfl); (case hn => rfl); (case hr => first | (go_simp; done) | (go_simp; rfl)); intro w16 hw
               obtain ⟨h2, h3, h4⟩ := hole_store HH3.out P6.out Q6.out HR3.out (fun k hk => (HI.out k hk).2) 2 (.int .i64 (wrap64 ((wrap64 (x1_1 + 1)) + 1))) (by omega) rfl
               rw [← hw] at h2 h3 h4
               have HH4 := Aside0.mk h2
               have HR4 := Aside0.mk h3
               have HK5 := Aside0.mk (Kept.of_grown h4 HK4.out (fun k_ e_ => .inl (by injection e_ with e_; rw [← e_]; exact PG.out)))
               have HB5 := Aside0.mk (by rw [hw]; exact below_set HB4.out GB.out : Below w0.heap.size w0 w16)
               have hx3 : w16.cell? ⟨go, x5_1.toNat * 4 + 3, none⟩ = some v3 := hole_cells h2 P6.out Q6.out 3 _ rfl
               clear HH3 HR3 HK4 HB4 HF3 h2 h3 h4 hx2 hf2 hw)
            | ((with_reducible refine gate_callee (f := 70) rfl ?_); refine goesL_ (some 40) rfl rfl Tryz.func70 (by kernel_rfl) rfl #[v3, .int .i64 (wrap64 ((wrap64 ((wrap64 (x1_1 + 1)) + 1)) + 1))] rfl (by (try simp only [List.map_toArray, List.map_cons, List.map_nil]); first | done | rfl) ?_; (with_reducible refine (laws_markStringS.calls k1 oki v3 _ _ q1 q2 w0 _ HB5.out HR4.out A6.out).mono ?_); rintro e w20 ⟨rfl, hr, hb, hk⟩; refine ⟨_, rfl, ?_⟩
               have hR5 := Kd.R_reok (ok := oki) rfl hr (fun k hk => HR4.out.1 k hk)
               have hH5 := Kd.H_kept HH4.out hk (fun k _ hn => hn)
               have HO6 := Aside0.mk (Kd.H_back hH5 (k83_mkM w20 w0.heap.size oki (⟨t, wrap64 (x1_1 + 1), wrap64 ((wrap64 (x1_1 + 1)) + 1), q2⟩ : SSet) hR5) (fun _ hk => hk))
               have HK6 := Aside0.mk (HK5.out.then_ hk (fun k hk => .inl (HI.out k hk).1))
               have HB6 := Aside0.mk hb
               clear HH4 HR4 HK5 HB5 hR5 hH5 hr hk hb hx3))
          go_roundg k1
          case measure => have := HK1.out; omega
          case rel => exact ⟨_, q1, wrap64 (x5_1 + 1), rfl, rfl, H', ⟨by have := HK1.out; omega⟩, HO6, HK6, HB6⟩
        · rw [if_neg c5] at H
          exact absurd H (by simp)
      · rw [if_neg c3] at H
        have c3b0 : decide (x5_1 < (x0_1.length : Int)) = false := decide_eq_false c3
        clear c3
        simp only [Option.some.injEq, Prod.mk.injEq] at H
        obtain ⟨rfl, rfl⟩ := H
        go_wp2
        go_ret
        exact ⟨rfl, HO.out, HB.out, HK.out⟩
end Go.Proofs.YtiegkjimpclmaaaGreatDoor.P
namespace Go.Proofs.YtiegkjimpclmaaaGreatDoor.P
open Go.RowKit Go.Proofs.YtiegkjimpclmaaaGreatDoorW.PrintWords Go.Proofs.YtiegkjimpclmaaaGreatDoorW.PrintLast Go.Proofs.YtiegkjimpclmaaaGreatDoorW.PrintMore
attribute [local go_sem] max2_int min2_int max_two min_two max_three min_three max_four min_four
set_option linter.unusedVariables false
set_option linter.unusedSimpArgs false
def laws_szSetS.l0 : Nat → List (S82) → Int → Int → Option (Int)
 | 0, _, _, _ => none
 | k + 1, x0, x1, x5 => if x5 < (x0.length : Int) then (if 0 ≤ x5 then ((laws_szSet.f k ((rd_T82 x0 x5).f0) ((rd_T82 x0 x5).f1) ((rd_T82 x0 x5).f2) ((rd_T82 x0 x5).f3) x1).bind fun t290 => (if t290 < 0 then (some (-1)) else (laws_szSetS.l0 k x0 t290 (wrap64 (x5 + 1))))) else (none)) else (some x1)
def laws_szSetS.f (k : Nat) (l0 : List (S82)) (a1 : Int) : Option (Int) := if (wrap64 (a1 - (l0.length : Int))) < 0 then (some (-1)) else (laws_szSetS.l0 k l0 (wrap64 (a1 - (l0.length : Int))) 0)
set_option maxHeartbeats 8000000 in
set_option maxRecDepth 100000 in
theorem laws_szSetS.calls (k : Nat) (A0 : Option Addr) (c0 : Nat) (l0 : List (S82)) (a1 : Int) (r : Int) (w : World) (hr0 : Kd.C k82 w A0 l0.length l0) (hc0 : l0.length ≤ c0) (h : laws_szSetS.f k l0 a1 = some r) :
 Calls Tryz.prog 12 #[.slice A0 l0.length c0, .int .i64 a1] w fun e w' => e = .returned (.int .i64 r) ∧ Below w.heap.size w w' := by
 have hu82 := Tryz.underlying82
 have HR0 := a0_ hr0
 have HC0 := a0_ hc0
 clear hr0 hc0
 have HB := a0_ (Below.refl w.heap.size w)
 have H := h
 clear h
 unfold laws_szSetS.f at H
 by_cases c3 : (wrap64 (a1 - (l0.length : Int))) < 0
 case pos =>
  rw [if_pos c3] at H
  have c3b0 := decide_eq_true c3
  clear c3
  obtain rfl := Option.some.inj H
  go_enter Tryz.func12, Tryz.ntmps12
  go_wp2
  go_ret
  exact ⟨rr_, bq0_⟩
 rw [if_neg c3] at H
 have c3b0 := decide_eq_false c3
 clear c3
 have H' := a0_ H
 clear H
 go_enter Tryz.func12, Tryz.ntmps12
 go_wp2
 go_loopg [1, 5] k (fun kq v1 v5 w' => ∃ (x1_1 : Int) (x5_1 : Int), v1 = .int .i64 x1_1 ∧ v5 = .int .i64 x5_1 ∧ Aside0 (laws_szSetS.l0 kq l0 x1_1 x5_1 = some r) ∧ Aside0 (kq ≤ k) ∧ Aside0 (Below w.heap.size w w'))
 case atStart => exact ⟨(wrap64 (a1 - (l0.length : Int))), (0), rs_, rs_, H', ⟨Nat.le_refl _⟩, ⟨bq0_⟩⟩
 case round =>
  clear H'
  try clear c3
  try clear c3b0
  obtain ⟨x1_1, x5_1, rfl, rfl, HA, HK1, HB⟩ := hrel
  cases gk with
  | zero => exact absurd HA.out (by simp [laws_szSetS.l0])
  | succ k1 =>
   have H := HA.out
   clear HA
   simp only [laws_szSetS.l0] at H
   by_cases c4 : x5_1 < (l0.length : Int)
   case neg =>
    rw [if_neg c4] at H
    have c4b0 := decide_eq_false c4
    clear c4
    obtain rfl := Option.some.inj H
    go_wp2
    go_ret
    exact ⟨rr_, bq0_⟩
   rw [if_pos c4] at H
   have c4b0 := decide_eq_true c4
   clear c4
   by_cases c5 : 0 ≤ x5_1
   case neg =>
    rw [if_neg c5] at H
    exact absurd H (by simp)
   rw [if_pos c5] at H
   have c5b0 := decide_eq_true c5
   clear c5
   obtain ⟨t290, A60, H⟩ := Option.bind_eq_some_iff.mp H
   have A6 := a0_ A60
   clear A60
   by_cases c7 : t290 < 0
   case pos =>
    rw [if_pos c7] at H
    have c7b0 := decide_eq_true c7
    clear c7
    obtain rfl := Option.some.inj H
    have p289 : 0 ≤ (x5_1 : Int) := dec_
    have q289 : x5_1 < (l0.length : Int) := dec_
    obtain ⟨ad289, A289_3, c289_3, e289, hx289_0, hx289_1, hx289_2, hx289_3, hl289_3, hi289_3⟩ := at_T82 HR0.out x5_1 p289 q289
    cases e289
    obtain ⟨hx289_0, hx289_1, hx289_2, hx289_3⟩ := up4_ HB.out hx289_0 hx289_1 hx289_2 hx289_3
    have HR289_3 := a0_ hi289_3
    have HC289_3 := a0_ hl289_3
    clear hi289_3 hl289_3
    replace p289 := eq_true p289
    replace q289 := eq_true q289
    go_wp2_with (first | ((with_reducible refine gate_callee (f := 60) rfl ?_); refine goesL_ (some 23) rfl rfl Tryz.func60 (by kernel_rfl) rfl #[.agg #[.string ((rd_T82 l0 x5_1).f0), .int .i64 ((rd_T82 l0 x5_1).f1), .int .i64 ((rd_T82 l0 x5_1).f2), .slice A289_3 ((rd_T82 l0 x5_1).f3).length c289_3], .int .i64 x1_1] rfl argsS_ ?_; (with_reducible refine (laws_szSet.calls k1 ((rd_T82 l0 x5_1).f0) ((rd_T82 l0 x5_1).f1) ((rd_T82 l0 x5_1).f2) _ _ ((rd_T82 l0 x5_1).f3) x1_1 t290 _ ?side1 ?side2 A6.out).mono ?_); (case side1 => exact kC_ HR289_3.out HB.out); (case side2 => exact HC289_3.out); rintro e w8 ⟨rfl, hb⟩; refine ⟨_, rfl, ?_⟩; replace HB := a0_ (below_step bq0_ hb); clear hb))
    go_ret
    exact ⟨rr_, bq0_⟩
   rw [if_neg c7] at H
   have c7b0 := decide_eq_false c7
   clear c7
   have H' := a0_ H
   clear H
   have p289 : 0 ≤ (x5_1 : Int) := dec_
   have q289 : x5_1 < (l0.length : Int) := dec_
   obtain ⟨ad289, A289_3, c289_3, e289, hx289_0, hx289_1, hx289_2, hx289_3, hl289_3, hi289_3⟩ := at_T82 HR0.out x5_1 p289 q289
   cases e289
   obtain ⟨hx289_0, hx289_1, hx289_2, hx289_3⟩ := up4_ HB.out hx289_0 hx289_1 hx289_2 hx289_3
   have HR289_3 := a0_ hi289_3
   have HC289_3 := a0_ hl289_3
   clear hi289_3 hl289_3
   replace p289 := eq_true p289
   replace q289 := eq_true q289
   go_wp2_with (first | ((with_reducible refine gate_callee (f := 60) rfl ?_); refine goesL_ (some 23) rfl rfl Tryz.func60 (by kernel_rfl) rfl #[.agg #[.string ((rd_T82 l0 x5_1).f0), .int .i64 ((rd_T82 l0 x5_1).f1), .int .i64 ((rd_T82 l0 x5_1).f2), .slice A289_3 ((rd_T82 l0 x5_1).f3).length c289_3], .int .i64 x1_1] rfl argsS_ ?_; (with_reducible refine (laws_szSet.calls k1 ((rd_T82 l0 x5_1).f0) ((rd_T82 l0 x5_1).f1) ((rd_T82 l0 x5_1).f2) _ _ ((rd_T82 l0 x5_1).f3) x1_1 t290 _ ?side1 ?side2 A6.out).mono ?_); (case side1 => exact kC_ HR289_3.out HB.out); (case side2 => exact HC289_3.out); rintro e w9 ⟨rfl, hb⟩; refine ⟨_, rfl, ?_⟩; replace HB := a0_ (below_step bq0_ hb); clear hb))
   go_roundg k1
   case measure => have := HK1.out; omega
   case rel => exact ⟨(t290), (wrap64 (x5_1 + 1)), rs_, rs_, H', ⟨by have := HK1.out; omega⟩, ⟨bq0_⟩⟩
def laws_toSetS.l0 : Nat → List (S82) → List (S83) → Int → Option ((List (S83)))
 | 0, _, _, _ => none
 | k + 1, x0, x3, x4 => if x4 < (x0.length : Int) then (if 0 ≤ x4 then ((laws_toSet.f k ((rd_T82 x0 x4).f0) ((rd_T82 x0 x4).f1) ((rd_T82 x0 x4).f2) ((rd_T82 x0 x4).f3)).bind fun bt361 => (if x4 < (x3.length : Int) then (laws_toSetS.l0 k x0 (x3.set (x4 : Int).toNat (⟨bt361.1, bt361.2.1, bt361.2.2.1, bt361.2.2.2⟩ : S83)) (wrap64 (x4 + 1))) else (none))) else (none)) else (some x3)
def laws_toSetS.f (k : Nat) (l0 : List (S82)) : Option ((List (S83))) := if 0 ≤ (l0.length : Int) then (if ((l0.length : Int) : Int).toNat ≤ 5026338869833 then (laws_toSetS.l0 k l0 (List.replicate ((l0.length : Int) : Int).toNat z83) 0) else (none)) else (none)
set_option maxHeartbeats 8000000 in
set_option maxRecDepth 100000 in
theorem laws_toSetS.calls (k : Nat) (A0 : Option Addr) (c0 : Nat) (l0 : List (S82)) (r : List (S83)) (w : World) (hr0 : Kd.C k82 w A0 l0.length l0) (hc0 : l0.length ≤ c0) (h : laws_toSetS.f k l0 = some r) :
 Calls Tryz.prog 14 #[.slice A0 l0.length c0] w fun e w' => ∃ v0_ : Value, e = .returned (v0_) ∧ Kd.S k83 83 w' w.heap.size (fun _ => True) v0_ r ∧ Below w.heap.size w w' := by
 have hu82 := Tryz.underlying82
 have hu83 := Tryz.underlying83
 have HR0 := a0_ hr0
 have HC0 := a0_ hc0
 clear hr0 hc0
 have HB := a0_ (Below.refl w.heap.size w)
 have H := h
 clear h
 unfold laws_toSetS.f at H
 by_cases c2 : 0 ≤ (l0.length : Int)
 case neg =>
  rw [if_neg c2] at H
  exact absurd H (by simp)
 rw [if_pos c2] at H
 have c2b0 := eq_true c2
 have c2b1 := decide_eq_true c2
 clear c2
 by_cases c3 : ((l0.length : Int) : Int).toNat ≤ 5026338869833
 case neg =>
  rw [if_neg c3] at H
  exact absurd H (by simp)
 rw [if_pos c3] at H
 have c3b0 := eq_true c3
 have c3b1 := decide_eq_true c3
 clear c3
 obtain ⟨y357, hy357⟩ : ∃ y_ : List (S83), y_ = (List.replicate ((l0.length : Int) : Int).toNat z83) := ⟨_, rfl⟩
 replace H : (laws_toSetS.l0 k l0 y357 0) = some r := by first | (rw [hy357]; with_reducible exact H) | (have H2_ := (Option.bind_some _ _).symm.trans H; rw [hy357]; with_reducible exact H2_) | (have H2_ := (Option.bind_some _ _).symm.trans H; with_reducible exact H2_) | with_reducible exact H | (rw [hy357]; exact H) | exact H
 have Ny357 := a0_ hy357
 clear hy357
 have H' := a0_ H
 clear H
 go_enter Tryz.func14, Tryz.ntmps14
 go_wp2_with (first | ((with_reducible refine gate_dst (N := 7) rfl ?_); refine Kd.S_make k83 _ 83 rfl (N := 7) rfl 30 _ _ rfl (l0.length : Int) rfl rfl Tryz.underlying30 (.agg #[(.string ⟨#[]⟩), (.int .i64 0), (.int .i64 0), (.slice none 0 0)]) 56 info83 rfl (by decide) (by omega) z83 (ok := fun _ => True) (okp := fun _ => True) (k83_mkM _ _ _ z83 (Kd.R_nil _ _ _ _ _)) (fun _ hk => hk) trivial (dec_) (Nat.le_trans (Nat.mul_le_mul_right _ (dec_ : (l0.length : Int).toNat ≤ 5026338869833)) (by omega)) (Below.refl _ _) (Nat.le_refl _) ?_; intro v358 w4 ho5 hb hg_ hnew_; clear hg_ hnew_; (first | rw [← Ny357.out] at ho5 | (simp only [Int.reduceToNat] at ho5; rw [← Ny357.out] at ho5)); have HO359 := a0_ (Kd.S_lower ho5 (below_size bq0_)); replace HB := a0_ (below_step bq0_ hb); clear hb ho5))
 go_loopg [4] k (fun kq v4 w' => ∃ (x3_1 : List (S83)) (x4_1 : Int), v4 = .int .i64 x4_1 ∧ Aside0 (laws_toSetS.l0 kq l0 x3_1 x4_1 = some r) ∧ Aside0 (kq ≤ k) ∧ Aside0 (Kd.S k83 83 w' w.heap.size (fun _ => True) v358 x3_1) ∧ Aside0 (Below w.heap.size w w'))
 case atStart => exact ⟨(y357), (0), rs_, H', ⟨Nat.le_refl _⟩, ⟨by (with_reducible repeat (first | apply Kd.S_alloc | apply Kd.S_drewN | apply Kd.S_drew)); exact HO359.out⟩, ⟨bq0_⟩⟩
 case round =>
  clear H'
  try clear c2
  try clear c2b0
  try clear c2b1
  try clear c3
  try clear c3b0
  try clear c3b1
  obtain ⟨x3_1, x4_1, rfl, HA, HK1, HO_3, HB⟩ := hrel
  cases gk with
  | zero => exact absurd HA.out (by simp [laws_toSetS.l0])
  | succ k1 =>
   have H := HA.out
   clear HA
   simp only [laws_toSetS.l0] at H
   by_cases c6 : x4_1 < (l0.length : Int)
   case neg =>
    rw [if_neg c6] at H
    have c6b0 := decide_eq_false c6
    clear c6
    obtain rfl := Option.some.inj H
    go_wp2
    go_ret
    exact ⟨_, rr_, by (with_reducible repeat (first | apply Kd.S_alloc | apply Kd.S_drewN | apply Kd.S_drew)); exact HO_3.out, bq0_⟩
   rw [if_pos c6] at H
   have c6b0 := decide_eq_true c6
   clear c6
   by_cases c7 : 0 ≤ x4_1
   case neg =>
    rw [if_neg c7] at H
    exact absurd H (by simp)
   rw [if_pos c7] at H
   have c7b0 := decide_eq_true c7
   clear c7
   obtain ⟨⟨t361, t362, t363, t364⟩, A80, H⟩ := Option.bind_eq_some_iff.mp H
   have A8 := a0_ A80
   clear A80
   by_cases c9 : x4_1 < (x3_1.length : Int)
   case neg =>
    rw [if_neg c9] at H
    exact absurd H (by simp)
   rw [if_pos c9] at H
   have c9b0 := decide_eq_true c9
   clear c9
   obtain ⟨y367, hy367⟩ : ∃ y_ : List (S83), y_ = (x3_1.set (x4_1 : Int).toNat (⟨t361, t362, t363, t364⟩ : S83)) := ⟨_, rfl⟩
   replace H : (laws_toSetS.l0 k1 l0 y367 (wrap64 (x4_1 + 1))) = some r := by first | (rw [hy367]; with_reducible exact H) | (have H2_ := (Option.bind_some _ _).symm.trans H; rw [hy367]; with_reducible exact H2_) | (have H2_ := (Option.bind_some _ _).symm.trans H; with_reducible exact H2_) | with_reducible exact H | (rw [hy367]; exact H) | exact H
   have Ny367 := a0_ hy367
   clear hy367
   have H' := a0_ H
   clear H
   have p360 : 0 ≤ (x4_1 : Int) := dec_
   have q360 : x4_1 < (l0.length : Int) := dec_
   obtain ⟨ad360, A360_3, c360_3, e360, hx360_0, hx360_1, hx360_2, hx360_3, hl360_3, hi360_3⟩ := at_T82 HR0.out x4_1 p360 q360
   cases e360
   obtain ⟨hx360_0, hx360_1, hx360_2, hx360_3⟩ := up4_ HB.out hx360_0 hx360_1 hx360_2 hx360_3
   have HR360_3 := a0_ hi360_3
   have HC360_3 := a0_ hl360_3
   clear hi360_3 hl360_3
   replace p360 := eq_true p360
   replace q360 := eq_true q360
   go_wp2_with (first | ((with_reducible refine gate_callee (f := 64) rfl ?_); refine goesL_ (some 20) rfl rfl Tryz.func64 (by kernel_rfl) rfl #[.agg #[.string ((rd_T82 l0 x4_1).f0), .int .i64 ((rd_T82 l0 x4_1).f1), .int .i64 ((rd_T82 l0 x4_1).f2), .slice A360_3 ((rd_T82 l0 x4_1).f3).length c360_3]] rfl argsS_ ?_; (with_reducible refine (laws_toSet.calls k1 ((rd_T82 l0 x4_1).f0) ((rd_T82 l0 x4_1).f1) ((rd_T82 l0 x4_1).f2) _ _ ((rd_T82 l0 x4_1).f3) t361 t362 t363 t364 _ ?side1 ?side2 A8.out).mono ?_); (case side1 => exact kC_ HR360_3.out HB.out); (case side2 => exact HC360_3.out); rintro e w11 ⟨v365, rfl, ho0, hb⟩; obtain ⟨Ax_, cx_, ex_⟩ := Kd.R_slice ho0; have EX_ := a0_ ex_; clear ex_; refine ⟨_, rfl, ?_⟩; replace HO_3 := a0_ (Kd.S_elder' (by (with_reducible repeat (first | apply Kd.S_alloc | apply Kd.S_drewN | apply Kd.S_drew)); exact HO_3.out) (Kd.R_base ho0) hb); have HO366 := a0_ (Kd.R_lower ho0 (below_size bq0_)); replace HB := a0_ (below_step bq0_ hb); clear hb; (try clear ho0); have p10 : 0 ≤ (x4_1 : Int) := dec_; have q10 : (x4_1 : Int) < ((x3_1.length : Int) : Int) := dec_; obtain ⟨go10, co10, eo10, gb10, gl10, cl10, HG10⟩ := Kd.S_form HO_3.out (by omega); (first | cases eo10 | (injection eo10 with ea_ en_ ec_; (first | subst ea_ | (injection ea_ with ea_; subst ea_)); subst ec_; clear en_)); have GB10 := a0_ gb10; have GG10 := a0_ HG10; clear gb10 gl10 HG10; obtain ⟨_, ce10, hcl10, hM10, hcc10, hfr10, _, _⟩ := Kd.S_elem HO_3.out z83 (x4_1 : Int) p10 q10; obtain ⟨ve10_3, rfl, ge10_3⟩ := k83_openM hM10; have hx10_0 : w11.cell? ⟨go10, (x4_1 : Int).toNat * 4, none⟩ = some (.string ((rd_T83 x3_1 x4_1).f0)) := hcc10 0 _ rfl; have hx10_1 : w11.cell? ⟨go10, (x4_1 : Int).toNat * 4 + 1, none⟩ = some (.int .i64 ((rd_T83 x3_1 x4_1).f1)) := hcc10 1 _ rfl; have hx10_2 : w11.cell? ⟨go10, (x4_1 : Int).toNat * 4 + 2, none⟩ = some (.int .i64 ((rd_T83 x3_1 x4_1).f2)) := hcc10 2 _ rfl; have hx10_3 : w11.cell? ⟨go10, (x4_1 : Int).toNat * 4 + 3, none⟩ = some (ve10_3) := hcc10 3 _ rfl; have hf10_0 : w11.frozen? ⟨go10, (x4_1 : Int).toNat * 4, none⟩ = false := hfr10 0; have hf10_1 : w11.frozen? ⟨go10, (x4_1 : Int).toNat * 4 + 1, none⟩ = false := hfr10 1; have hf10_2 : w11.frozen? ⟨go10, (x4_1 : Int).toNat * 4 + 2, none⟩ = false := hfr10 2; have hf10_3 : w11.frozen? ⟨go10, (x4_1 : Int).toNat * 4 + 3, none⟩ = false := hfr10 3; clear hcl10 hcc10 hfr10 hM10; replace p10 := eq_true p10; replace q10 := eq_true q10; have n_ := a0_ (Kd.S_mono (ok' := (fun k_ => some k_ ≠ (v365 : Value).ownBlock)) HO_3.out (fun k_ hk => hk.2)); clear HO_3; have HO_3 := n_; clear n_; have HX12 := a0_ (show Kd.S k83 83 w11 w.heap.size (fun k_ => ((fun _ => True)) k_ ∧ ¬ ((fun k_ => some k_ = (v365 : Value).ownBlock)) k_) (.slice (some ⟨go10, 0, none⟩) x3_1.length co10) x3_1 from (by (with_reducible repeat (first | apply Kd.S_alloc | apply Kd.S_drewN | apply Kd.S_drew)); exact Kd.S_mono HO_3.out (fun k_ hk => ⟨trivial, fun e_ => hk e_⟩))); obtain ⟨oki12, ce12, hcl12, hM12, hcc12, hfr12, hoki12, hH12⟩ := Kd.S_elem HX12.out z83 (x4_1 : Int) (dec_) (by have h_ : (x4_1 : Int) < ((x3_1.length : Int) : Int) := dec_; first | exact h_ | (have e_ := (Kd.S_reads' HO_3.out).1; omega) | simpa using h_); obtain ⟨ve12_3, rfl, ge12_3⟩ := k83_openM hM12; have HP12 := Kd.S_seg hH12 (dec_) (by have h_ : (x4_1 : Int) < ((x3_1.length : Int) : Int) := dec_; first | exact h_ | (have e_ := (Kd.S_reads' HO_3.out).1; omega) | simpa using h_) (seg := [.string t361, .int .i64 t362, .int .i64 t363, v365]) (j := 0) (show 4 ≤ 4 from by decide) (x' := (⟨t361, t362, t363, t364⟩ : S83)) (k83_mkM _ _ _ (⟨t361, t362, t363, t364⟩ : S83) (Kd.R_mono (Kd.R_tight rfl (Kd.R_mono (ok' := fun k_ => ((fun _ => True)) k_ ∧ k_ ≠ go10) (Kd.R_apart' (HO366.out) (Kd.S_typed HO_3.out) (by decide)) (fun k_ hk => ⟨trivial, fun e_ => (hk.2) (by rw [e_]; rfl)⟩))) (fun _ h_ => Or.inr (h_)))) (fun _ hk => hk) (fun k_ hk_ => ((Kd.R_mono (ok' := fun k_ => ((fun _ => True)) k_ ∧ k_ ≠ go10) (Kd.R_apart' (HO366.out) (Kd.S_typed HO_3.out) (by decide)) (fun k_ hk => ⟨trivial, fun e_ => (hk.2) (by rw [e_]; rfl)⟩))).1 k_ hk_.symm); have hx12_0 := hcc12 0 _ rfl; (try simp only [show (k83).sz = 4 from rfl, Nat.mul_one, Nat.add_zero] at hx12_0); have hf12_0 := hfr12 0; (try simp only [show (k83).sz = 4 from rfl, Nat.mul_one, Nat.add_zero] at hf12_0); have hx12_1 := hcc12 1 _ rfl; (try simp only [show (k83).sz = 4 from rfl, Nat.mul_one, Nat.add_zero] at hx12_1); have hf12_1 := hfr12 1; (try simp only [show (k83).sz = 4 from rfl, Nat.mul_one, Nat.add_zero] at hf12_1); have hx12_2 := hcc12 2 _ rfl; (try simp only [show (k83).sz = 4 from rfl, Nat.mul_one, Nat.add_zero] at hx12_2); have hf12_2 := hfr12 2; (try simp only [show (k83).sz = 4 from rfl, Nat.mul_one, Nat.add_zero] at hf12_2); have hx12_3 := hcc12 3 _ rfl; (try simp only [show (k83).sz = 4 from rfl, Nat.mul_one, Nat.add_zero] at hx12_3); have hf12_3 := hfr12 3; (try simp only [show (k83).sz = 4 from rfl, Nat.mul_one, Nat.add_zero] at hf12_3); clear hcl12 hcc12 hfr12 hM12 hoki12 hH12) | ((with_reducible refine gate_store (t := 83) (p := 21) rfl ?_); refine store_event (t := 83) (p := 21) (v := ?vo_w13) (w1 := ((((w11.setCell ⟨go10, (x4_1 : Int).toNat * 4, none⟩ (.string t361)).setCell ⟨go10, (x4_1 : Int).toNat * 4 + 1, none⟩ (.int .i64 t362)).setCell ⟨go10, (x4_1 : Int).toNat * 4 + 2, none⟩ (.int .i64 t363)).setCell ⟨go10, (x4_1 : Int).toNat * 4 + 3, none⟩ (v365))) ?hg ?ho ?hn ?hr ?_; (case ho => rfl); (case hg => rfl); (case hn => rfl); (case hr => first | (go_simp; done) | (go_simp; rfl) | (rw [EX_.out]; first | (go_simp; done) | (go_simp; rfl))); intro w13 hw; have hg : w11.grownBy w13 (some go10) := (by rw [hw]; exact HP12.2); have hp_ : Kd.S k83 83 w13 w.heap.size (fun _ => True) (.slice (some ⟨go10, 0, none⟩) x3_1.length co10) y367 := (by rw [hw, Ny367.out]; exact HP12.1); clear HP12; have n0_ := a0_ (hp_); have n1_ := a0_ ((by rw [hw]; exact below_set (below_set (below_set (below_set (HB.out) GB10.out) GB10.out) GB10.out) GB10.out : Below w.heap.size w w13)); clear HO_3; clear HB; clear HO366; have HO_3 := n0_; have HB := n1_; clear n0_ n1_; clear hg hw hp_))
   go_roundg k1
   case measure => have := HK1.out; omega
   case rel => exact ⟨(y367), (wrap64 (x4_1 + 1)), rs_, H', ⟨by have := HK1.out; omega⟩, ⟨by (with_reducible repeat (first | apply Kd.S_alloc | apply Kd.S_drewN | apply Kd.S_drew)); exact HO_3.out⟩, ⟨bq0_⟩⟩
end Go.Proofs.YtiegkjimpclmaaaGreatDoor.P
