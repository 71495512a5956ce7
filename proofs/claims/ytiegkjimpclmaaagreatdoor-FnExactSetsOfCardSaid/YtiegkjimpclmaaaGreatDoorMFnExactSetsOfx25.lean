/- FnExactSetsOf: part 26 of 28 of my texts for this claim, joined; the theorem stands in the last. Conditions: none beyond the statement's. -/
import Derived.Test.YtiegkjimpclmaaaGreatDoorMFnExactSetsOfx24
import Derived.Lib.OwnBridge
namespace Go.Proofs.YtiegkjimpclmaaaGreatDoor.P
open Go.Shelf Go.Sort Go.RowKit Go.Proofs.YtiegkjimpclmaaaGreatDoorW.PrintWords Go.Proofs.YtiegkjimpclmaaaGreatDoorW.PrintLast Go.Proofs.YtiegkjimpclmaaaGreatDoorW.PrintMore
set_option linter.unusedVariables false
set_option linter.unusedSimpArgs false
theorem flat_len4 : ∀ l : List IR, (l.flatMap cellsR).length = l.length * 4
  | [] => rfl
  | x :: l => by rw [List.flatMap_cons, List.length_append, flat_len4 l, List.length_cons]; simp [cellsR]; omega
theorem flat_get : ∀ (l : List IR) (t : Nat) (h : t / 4 < l.length), (l.flatMap cellsR)[t]? = (cellsR l[t / 4])[t % 4]?
  | [], t, h => by simp at h
  | x :: l, t, h => by
    rw [List.flatMap_cons]
    by_cases c : t < 4
    · have e : t / 4 = 0 := by omega
      have e2 : t % 4 = t := by omega
      rw [List.getElem?_append_left (by simpa [cellsR] using c)]
      simp only [e, e2, List.getElem_cons_zero]
    · have e : t / 4 = (t - 4) / 4 + 1 := by omega
      have e2 : t % 4 = (t - 4) % 4 := by omega
      have h' : (t - 4) / 4 < l.length := by rw [List.length_cons] at h; omega
      rw [List.getElem?_append_right (by simp [cellsR]; omega), show (cellsR x).length = 4 from rfl, flat_get l (t - 4) h']
      simp only [e, e2, List.getElem_cons_succ]
theorem holdsG [Inhabited GR] {W : World} {g : Nat} {cur : Array Value} {e : TypeId} (dn : List GR) (hb : W.heap[g]? = some (.cells cur e (0, 0))) (ht : cur.toList.take (dn.length * 4) = (dn.map Subtype.val).flatMap cellsR) : HoldsK encG 4 W g 0 dn.toArray := by
  intro j hj
  rw [size_flatK, List.size_toArray] at hj
  refine ⟨?_, by simp [World.frozen?, hb]⟩
  rw [Nat.zero_add, blk_cell hb j, get_flatK encG 4 dn.toArray j (by simpa using hj)]
  have hj4 : j / 4 < dn.length := by omega
  have h1 : (cur.toList.take (dn.length * 4))[j]? = cur[j]? := by rw [List.getElem?_take, if_pos hj, Array.getElem?_toList]
  rw [← h1, ht, flat_get _ j (by rw [List.length_map]; exact hj4)]
  have e1 : dn.toArray[j / 4]! = dn[j / 4] := by rw [getElem!_pos _ _ (by simpa using hj4)]; simp
  have hl : (cellsR dn[j / 4].1).length = 4 := rfl
  rw [e1, List.getElem_map, List.getElem?_eq_getElem (by rw [hl]; omega)]
  show some _ = some ((cellsR dn[j / 4].1)[j % 4]!)
  rw [getElem!_pos (cellsR dn[j / 4].1) (j % 4) (by rw [hl]; omega)]
theorem below_sortW [Inhabited GR] {B : Nat} {w0 w : World} {g : Nat} (h : Go.RowKit.Below B w0 w) (hg : B ≤ g) (hw : B ≤ w.heap.size) (m : Nat) (dk : Array GR) (os : Array Obj) : Go.RowKit.Below B w0 (sortWorldK encG 4 w g 0 m dk os) := by
  have h1 : Go.RowKit.Below B w0 (putRowK encG 4 (Sort.ahead w m) g 0 dk) := Go.Lib.below_putRow h hg
  refine ⟨h1.os, h1.tape, h1.output, ?_, fun k hk => ?_⟩
  · have := h1.size
    simp only [sortWorldK, grow, Array.size_append]
    omega
  · rw [← h1.block k hk]
    have hs : k < (putRowK encG 4 (Sort.ahead w m) g 0 dk).heap.size := by
      have : (putRowK encG 4 (Sort.ahead w m) g 0 dk).heap.size = w.heap.size := by simp [putRowK, putRow, mapBlock, Sort.ahead]
      omega
    simp only [sortWorldK, grow]
    exact Array.getElem?_append_left hs
theorem sort_own (W0 W : World) (g cap : Nat) (cur : Array Value) (xs : List IR) (hg : ∀ x ∈ xs, Pure.SmR x ∧ Pure.gd x = true) (hl : xs.length ≤ 60) (hne : xs ≠ []) (hv : Vars W0) (hB : Go.RowKit.Below W0.heap.size W0 W) (hg0 : W0.heap.size ≤ g) (hb : W.heap[g]? = some (.cells cur 45 (0, 0))) (ht : cur.toList.take (xs.length * 4) = xs.flatMap cellsR) :
    ∃ ys : List IR, ys.Perm xs ∧ ys.Pairwise (fun x y => ¬ Pure.od y x < 0) ∧ ys.length = xs.length ∧
    Calls Tryz.prog 138 #[.slice (some ⟨g, 0, none⟩) xs.length cap, .func (.func 77) #[] #[]] W fun e w' => e = .returned (.tuple #[]) ∧ Go.RowKit.Below W0.heap.size W w' ∧ ∃ cur', w'.heap[g]? = some (.cells cur' 45 (0, 0)) ∧ cur'.size = cur.size ∧ cur'.toList.take (xs.length * 4) = ys.flatMap cellsR := by
  obtain ⟨dn, hdn⟩ : ∃ dn : List GR, dn.map Subtype.val = xs := ⟨xs.attach.map fun x => ⟨x.1, hg x.1 x.2⟩, by rw [List.map_map]; exact List.attach_map_subtype_val xs⟩
  have hlen : dn.length = xs.length := by rw [← hdn, List.length_map]
  obtain ⟨x0, t0, hx0⟩ := List.exists_cons_of_ne_nil (show dn ≠ [] from fun e => hne (by rw [← hdn, e]; rfl))
  haveI : Inhabited GR := ⟨x0⟩
  have eg : ∀ args w, (callFunc 77 args).run Tryz.prog w = .ok (.enter 77 args) w := enters_of Tryz.func77 (by kernel_rfl) rfl
  have hH := holdsG dn hb (by rw [hlen, hdn]; exact ht)
  have hblk : g < W.heap.size := (Array.getElem?_eq_some_iff.1 hb).1
  have hc := AnyQ.slices_SortFunc_total Tryz.sort 4 (fun w => Tryz.isAgg45 w) (fun w => Tryz.sizeOf45 w) encG (fun _ => rfl) (fun x => cells_one x.1) ordG swoG 77 #[] g 0 cap dn.toArray W eg (cmp_lays W0 W g _ hv (fun m os dk => below_sortW hB hg0 hB.size m dk os)) hH hblk (by simp; omega) partsG
  have hcur : xs.length * 4 ≤ cur.size := by
    have := congrArg List.length ht
    rw [flat_len4, List.length_take] at this
    have h2 : cur.toList.length = cur.size := Array.length_toList
    have h3 : min (xs.length * 4) cur.toList.length ≤ cur.toList.length := Nat.min_le_right _ _
    rw [this, h2] at h3
    exact h3
  generalize hds : dn.mergeSort (fun x y => !(ltOf ordG) y x) = ds at hc
  have hp : ds.Perm dn := by rw [← hds]; exact List.mergeSort_perm dn _
  have hsrt : ds.Pairwise fun x y => (!(ltOf ordG) y x) = true := by
    rw [← hds]
    refine List.pairwise_mergeSort (fun x y z h h' => ?_) (fun x y => ?_) dn
    · simp only [Bool.not_eq_true'] at *
      exact swoG.ntrans _ _ _ h' h
    · cases h1 : ltOf ordG x y with
      | false => simp
      | true =>
        cases h2 : ltOf ordG y x with
        | false => simp
        | true =>
          have := swoG.trans _ _ _ h1 h2
          rw [swoG.irrefl] at this; cases this
  have hdl : ds.length = xs.length := by rw [hp.length_eq, hlen]
  refine ⟨ds.map Subtype.val, by rw [← hdn]; exact hp.map _, ?_, by rw [List.length_map, hdl], ?_⟩
  · rw [List.pairwise_map]
    refine hsrt.imp fun {x y} h => ?_
    simp only [Bool.not_eq_true', lt_g] at h
    exact of_decide_eq_false h
  · have hc2 : Calls Tryz.prog 138 #[.slice (some ⟨g, 0, none⟩) dn.length cap, .func (.func 77) #[] #[]] W fun e w' => e = .returned (.tuple #[]) ∧ ∃ n os, w' = sortWorldK encG 4 W g 0 n ds.toArray os := hc
    rw [hlen] at hc2
    refine hc2.mono ?_
    rintro e w' ⟨rfl, n, os, rfl⟩
    refine ⟨rfl, below_sortW (Go.RowKit.Below.refl _ W) hg0 hB.size n _ os, putCells id 0 (flatK encG 4 ds.toArray) cur, ?_, by simp [putCells], ?_⟩
    · have hh : (putRowK encG 4 (Sort.ahead W n) g 0 ds.toArray).heap[g]? = some (.cells (putCells id 0 (flatK encG 4 ds.toArray) cur) 45 (0, 0)) := by
        simp [putRowK, putRow, mapBlock, Sort.ahead, Array.getElem?_modify, hb, onCells]
      simp only [sortWorldK, grow]
      rw [Array.getElem?_append_left (Array.getElem?_eq_some_iff.1 hh).1]
      exact hh
    · apply List.ext_getElem?
      intro j
      rw [List.getElem?_take, Array.getElem?_toList]
      by_cases hj : j < xs.length * 4
      · have hj4 : j / 4 < ds.length := by omega
        have hjm : j / 4 < (ds.map Subtype.val).length := by rw [List.length_map]; exact hj4
        rw [if_pos hj, flat_get _ j hjm]
        have hl4 : (cellsR ds[j / 4].1).length = 4 := rfl
        simp only [putCells, Array.getElem?_mapIdx, Array.getElem?_eq_getElem (show j < cur.size by omega), Option.map_some]
        rw [if_pos (by rw [size_flatK, List.size_toArray]; omega), Nat.sub_zero, get_flatK encG 4 ds.toArray j (by rw [List.size_toArray]; omega)]
        have e1 : ds.toArray[j / 4]! = ds[j / 4] := by rw [getElem!_pos _ _ (by simpa using hj4)]; simp
        rw [e1, List.getElem_map, List.getElem?_eq_getElem (by rw [hl4]; omega)]
        show some ((cellsR ds[j / 4].1)[j % 4]!) = some _
        rw [getElem!_pos (cellsR ds[j / 4].1) (j % 4) (by rw [hl4]; omega)]
      · rw [if_neg hj, List.getElem?_eq_none (by rw [flat_len4, List.length_map]; omega)]
end Go.Proofs.YtiegkjimpclmaaaGreatDoor.P
namespace Go.Proofs.YtiegkjimpclmaaaGreatDoor.P
open Go.Shelf Go.RowKit Go.Proofs.YtiegkjimpclmaaaGreatDoorW.PrintWords Go.Proofs.YtiegkjimpclmaaaGreatDoorW.PrintLast Go.Proofs.YtiegkjimpclmaaaGreatDoorW.PrintMore
set_option linter.unusedVariables false
set_option linter.unusedSimpArgs false
def Fall : Fence := { fn := fun _ => True }
theorem collect_calls (Bs : Nat) (w0 : World) (A : Option Addr) (cap : Nat) (xs : List IR) (hrow : Kd.C k45 w0 A xs.length xs) (hmax : xs.length ≤ 1048576)
    (w : World) (hB : Below w0.heap.size w0 w) (hBs : Bs < w.heap.size) (hc : w.cell? ⟨Bs, 0, none⟩ = some (.slice A xs.length cap)) :
    Calls Tryz.prog 137 #[.func (.func 139) #[] #[.pointer (some ⟨Bs, 0, none⟩)]] w fun e W' => ∃ v, e = .returned v ∧ W'.ownsRow w.heap.size 45 4 v xs.length (xs.flatMap cellsR) ∧ (v = .slice none 0 0 ↔ xs = []) ∧ Below w.heap.size w W' :=
  (collect_in Fall 4 trivial trivial trivial rfl (Nat.le_refl _) Bs w0 A cap xs hrow hmax w hB hBs hc).calls (fun k => by simp [Fall, Fence.room])
theorem values_calls (a : Option Addr) (len cap : Nat) (w : World) :
    Calls Tryz.prog 76 #[.slice a len cap] w fun e w' => e = .returned (.func (.func 139) #[] #[.pointer (some ⟨w.heap.size, 0, none⟩)]) ∧ w' = w.alloc (.cells #[.slice a len cap] 27) :=
  (values_in Fall 4 trivial rfl a len cap w).calls (fun k => by simp [Fall, Fence.room])
theorem sortR_none (W : World) (p : Option Addr) (cap : Nat) (fv : Value) : Calls Tryz.prog 138 #[.slice p 0 cap, fv] W fun e w' => e = .returned (.tuple #[]) ∧ w' = W :=
  AnyF.slices_SortFunc_none (P := Tryz.prog) (ρ := Tryz.sort_ren) { Tryz.sort with } p cap fv W
def SortedRow (xs : List IR) (b : Nat) (v : Value) (W : World) : Prop := ∃ ys : List IR, ys.Perm xs ∧ ys.Pairwise (fun x y => ¬ Pure.od y x < 0) ∧ W.ownsRow b 45 4 v xs.length (ys.flatMap cellsR)
set_option maxHeartbeats 2000000 in
set_option maxRecDepth 100000 in
theorem sorted_calls (Bs : Nat) (w0 : World) (A : Option Addr) (cap : Nat) (xs : List IR) (hrow : Kd.C k45 w0 A xs.length xs) (hmax : xs.length ≤ 60) (hgood : ∀ x ∈ xs, Pure.SmR x ∧ Pure.gd x = true)
    (w : World) (hv : Vars w) (hB : Below w0.heap.size w0 w) (hBs : Bs < w.heap.size) (hc : w.cell? ⟨Bs, 0, none⟩ = some (.slice A xs.length cap)) :
    Calls Tryz.prog 75 #[.func (.func 139) #[] #[.pointer (some ⟨Bs, 0, none⟩)], .func (.func 77) #[] #[]] w fun e W' => ∃ v, e = .returned v ∧ SortedRow xs w.heap.size v W' ∧ Below w.heap.size w W' := by
  have hcol := collect_calls Bs w0 A cap xs hrow (by omega) w hB hBs hc
  by_cases hne : xs = []
  · subst hne
    go_enter Tryz.func75, Tryz.ntmps75
    go_wp2_with (first
      | (go_at_call 137; refine hcol.mono ?_; rintro e w' ⟨v, rfl, ho, hnil, hb⟩; obtain rfl := hnil.2 rfl)
      | (go_at_call 138; refine (sortR_none _ _ _ _).mono ?_; rintro e w2 ⟨rfl, rfl⟩))
    go_ret
    exact ⟨_, rfl, ⟨[], List.Perm.refl _, List.Pairwise.nil, ho⟩, hb⟩
  · have hcol2 : Calls Tryz.prog 137 #[.func (.func 139) #[] #[.pointer (some ⟨Bs, 0, none⟩)]] w fun e W' => ∃ g cp cur, e = .returned (.slice (some ⟨g, 0, none⟩) xs.length cp) ∧ w.heap.size ≤ g ∧ W'.heap[g]? = some (.cells cur 45 (0, 0)) ∧ xs.length ≤ cp ∧ cp ≤ maxLen ∧ cur.size = cp * 4 ∧ cur.toList.take (xs.length * 4) = xs.flatMap cellsR ∧ Below w.heap.size w W' := by
      refine hcol.mono ?_
      rintro e W' ⟨v, rfl, ho, hnil, hb⟩
      rcases ho.2 with ⟨rfl, h0⟩ | ⟨g, cp, cur, rfl, q1, q2, q3, q4, q5, q6⟩
      · exact absurd (hnil.1 rfl) hne
      · exact ⟨g, cp, cur, rfl, q1, q2, q3, q4, q5, q6, hb⟩
    clear hcol
    go_enter Tryz.func75, Tryz.ntmps75
    go_wp2_with (first
      | (go_at_call 137; refine hcol2.mono ?_; rintro e w' ⟨g, cp, cur, rfl, q1, q2, q3, q4, q5, q6, hb⟩; clear hcol2; obtain ⟨ys, hp, hs, hyl, hcall⟩ := sort_own w w' g cp cur xs hgood hmax hne hv hb q1 q2 q6)
      | (go_at_call 138; refine hcall.mono ?_; rintro e w2 ⟨rfl, hb2, cur', r1, r2, r3⟩))
    go_ret
    exact ⟨_, rfl, ⟨ys, hp, hs.imp (fun h => Int.not_lt.2 h), by rw [flat_len4, hyl], .inr ⟨g, cp, cur', rfl, q1, r1, q3, q4, by rw [r2, q5], r3⟩⟩, hb.trans hb2⟩
end Go.Proofs.YtiegkjimpclmaaaGreatDoor.P
namespace Go.Proofs.YtiegkjimpclmaaaGreatDoor.P
open Go.Shelf Go.RowKit Go.Proofs.YtiegkjimpclmaaaGreatDoorW.PrintWords Go.Proofs.YtiegkjimpclmaaaGreatDoorW.PrintLast Go.Proofs.YtiegkjimpclmaaaGreatDoorW.PrintMore
set_option linter.unusedVariables false
set_option linter.unusedSimpArgs false
open Classical in
noncomputable def slices_SortedFunc_rec.f (l0 : List IR) : Option (List IR) := if l0.length ≤ 60 ∧ Pure.Goods l0 then some (Pure.inOrder l0) else none
theorem reps_cells (w : World) (base : Nat) (ok : Nat → Prop) : ∀ (ys acc : List IR) (cs : List Value), Reps (k45.M w base ok) 4 acc cs → Reps (k45.M w base ok) 4 (acc ++ ys) (cs ++ ys.flatMap cellsR)
  | [], acc, cs, h => by simpa using h
  | y :: ys, acc, cs, h => by
    have := reps_cells w base ok ys (acc ++ [y]) (cs ++ cellsR y) (h.snoc (k45_mkM w base ok y) rfl)
    simpa using this
theorem row_R {W : World} {b : Nat} {v : Value} {ys : List IR} (h : W.ownsRow b 45 4 v ys.length (ys.flatMap cellsR)) : Kd.R k45 45 W b (fun _ => True) v ys :=
  ⟨fun _ _ => trivial, ys.flatMap cellsR, h, reps_cells W b (fun k => True ∧ some k ≠ v.ownBlock) ys [] [] (Reps.none _ _)⟩
theorem slices_SortedFunc_rec.calls (A0 : Option Addr) (c0 : Nat) (l0 r : List IR) (w : World) (hr0 : Kd.C k45 w A0 l0.length l0) (hc0 : l0.length ≤ c0) (h : slices_SortedFunc_rec.f l0 = some r)
    (hv_ : Vars w := by first | assumption | (refine Vars.below (Aside0.out (by assumption)) ?_; repeat (first | (with_reducible first | exact Below.refl _ _ | exact Aside0.out (by assumption) | apply below_alloc | apply pw_below_drewN | apply below_drew1) | exact Aside0.out (by assumption)))) :
    Calls Tryz.prog 75 #[.func (.func 139) #[] #[.pointer (some ⟨w.heap.size, 0, none⟩)], .func (.func 77) #[] #[]] (w.alloc (.cells #[.slice A0 l0.length c0] 27)) fun e w' => ∃ v0_ : Value, e = .returned (v0_) ∧ Kd.R k45 45 w' w.heap.size (fun _ => True) v0_ r ∧ Below w.heap.size w w' := by
  unfold slices_SortedFunc_rec.f at h
  split at h
  · rename_i hc
    obtain rfl := Option.some.inj h
    have hb : Below w.heap.size w (w.alloc (.cells #[.slice A0 l0.length c0] 27)) := below_alloc (Below.refl _ _) _
    refine (sorted_calls w.heap.size w A0 c0 l0 hr0 hc.1 hc.2 _ (Vars.below hv_ hb) hb (by rw [World.size_alloc]; omega) ((blk_cell (World.alloc_heap_new _ _) 0).trans rfl)).mono ?_
    rintro e w' ⟨v, rfl, ⟨ys, hp, hs, ho⟩, hb2⟩
    have ey := Pure.inOrder_eq hc.2 hp hs
    rw [ey]
    rw [← hp.length_eq] at ho
    exact ⟨v, rfl, Kd.R_lower (row_R ho) (by rw [World.size_alloc]; omega), below_step hb hb2⟩
  · cases h
end Go.Proofs.YtiegkjimpclmaaaGreatDoor.P
