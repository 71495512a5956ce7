/- FnExactReadData: part 16 of 26 of my texts for this claim, joined; the theorem stands in the last. Conditions: none beyond the statement's. -/
import Derived.Test.YtiegkjimpclmaaaGreatDoorMFnExactReadDatax5
import Derived.Test.YtiegkjimpclmaaaGreatDoorMFnExactReadDatax14
import Derived.Test.YtiegkjimpclmaaaGreatDoorMFnExactReadDatax12
-- HName
/- impl.NameOf: its walk over strings.Join, slices.ContainsFunc and impl.GoodName. Conditions: the row of labels lies at a plain place. -/
namespace Go.Proofs.YtiegkjimpclmaaaGreatDoor.P
open Go.RowKit Go.Proofs.YtiegkjimpclmaaaGreatDoorW.PrintWords Go.Proofs.YtiegkjimpclmaaaGreatDoorW.PrintLast Go.Proofs.YtiegkjimpclmaaaGreatDoorW.PrintMore
set_option linter.unusedVariables false
set_option linter.unusedSimpArgs false

theorem builderX : Builder.Extra Tryz.prog Tryz.lays156_ren where
  sizeBuilder := by kernel_rfl
  liesBuilder := by kernel_rfl
  t5 := Tryz.underlying5
  a5 := Tryz.isAgg5
  z5 := Tryz.sizeOf5
  v5 := Tryz.zeroValue5
  infoByte := by kernel_rfl
  cellsByte := by kernel_rfl
  sizeByte := by kernel_rfl
  neB5 := by decide

/-- The text of labels with dots between. -/
def joinL (l : List ByteArray) : List UInt8 := Lib.join (l.map (·.data.toList)) [46]
theorem spot_R {T : Nat} {w : World} {b : Nat} {ok : Nat → Prop} {A : Option Addr} {n c : Nat} {xs : List ByteArray} (h : Kd.R Kd.string T w b ok (.slice A n c) xs) : ∀ ad, A = some ad → ad.spot = none := by
  intro ad e
  obtain ⟨cs, hown, _⟩ := h.2
  rcases hown.2 with ⟨h1, _⟩ | ⟨g, cap, cur, h1, _⟩
  · injection h1 with h2
    rw [e] at h2
    cases h2
  · injection h1 with h2
    rw [e] at h2
    injection h2 with h2
    rw [h2]

theorem join_calls (A : Option Addr) (c : Nat) (xs : List ByteArray) (w : World) (hr : Kd.C Kd.string w A xs.length xs) (hc : xs.length ≤ c) (hs : ∀ ad, A = some ad → ad.spot = none)
    (hl : (joinL xs).length ≤ 140737488355328) (hn : xs.length ≤ 8) :
    Calls Tryz.prog 57 #[.slice A xs.length c, .string (⟨#[46]⟩ : ByteArray)] w fun e w' => e = .returned (.string (mkB (joinL xs))) ∧ Below w.heap.size w w' := by
  cases xs with
  | nil => exact (Any.strings_Join_none Tryz.lays156 builderX A c _ w).mono fun e w' ⟨he, hw⟩ => ⟨he, hw ▸ Below.refl _ _⟩
  | cons x r =>
    obtain ⟨ad, rfl, hx⟩ := Kd.at_string hr 0 (by omega) (by simp)
    have hsp := hs ad rfl
    obtain ⟨bk, o, sp⟩ := ad
    simp only at hsp
    subst hsp
    refine Any.strings_Join Tryz.lays156 builderX bk o c (x :: r) (⟨#[46]⟩ : ByteArray) w ?_ (World.block_lt_of_cell? _ _ hx) (by omega) hc hl
    intro j y hj
    have hjl : j < (x :: r).length := (List.getElem?_eq_some_iff.1 hj).1
    obtain ⟨ad, e0, hx⟩ := Kd.at_string hr (j : Int) (by omega) (by omega)
    cases e0
    rw [Int.toNat_natCast] at hx
    have hy : rdOf ByteArray.empty (x :: r) (j : Int) = y := by
      unfold rdOf
      rw [Int.toNat_natCast, List.getD_eq_getElem?_getD, hj]
      rfl
    rw [hy] at hx
    by_cases hj0 : j = 0
    · subst hj0
      simpa [Addr.add] using hx
    · simpa [Addr.add, hj0] using hx

theorem joinL_len (l : List ByteArray) (h : ∀ x ∈ l, x.size ≤ 20) : (joinL l).length ≤ l.length * 21 := by
  unfold joinL
  cases l with
  | nil => simp [Lib.join_nil]
  | cons x r =>
    rw [List.map_cons, Lib.join_cons, List.length_append]
    have h1 := h x List.mem_cons_self
    have h2 : ∀ m : List ByteArray, (∀ y ∈ m, y.size ≤ 20) → (Lib.joinTail [46] (m.map (·.data.toList))).length ≤ m.length * 21 := by
      intro m
      induction m with
      | nil => intro _; simp [Lib.joinTail]
      | cons y m ih =>
        intro hy
        have := hy y List.mem_cons_self
        have := ih fun z hz => hy z (List.mem_cons_of_mem _ hz)
        simp [Lib.joinTail] at this ⊢
        rw [size_len] at *
        simp at *
        omega
    have h3 := h2 r fun y hy => h y (List.mem_cons_of_mem _ hy)
    rw [size_len] at h1
    simp only [List.length_cons]
    omega
theorem label_size {l : List UInt8} (h : isLabelL l = true) : l.length ≤ 20 := by
  unfold isLabelL at h
  simp only [Bool.or_eq_true, Bool.and_eq_true, decide_eq_true_eq, beq_iff_eq] at h
  rcases h with rfl | h
  · simp
  · exact h.1.2

def nameR (l : List ByteArray) : ByteArray × Bool :=
  if decide (l.length ≤ 8) && l.all (fun x => isLabelL x.data.toList) then (if goodL (joinL l) = true then (mkB (joinL l), true) else ((⟨#[]⟩ : ByteArray), false)) else ((⟨#[]⟩ : ByteArray), false)
def impl_NameOf.f (l : List ByteArray) : Option (ByteArray × Bool) := some (nameR l)

theorem name_closure (x : ByteArray) (W : World) : Calls Tryz.prog 207 #[.string x] W fun e W' => e = .returned (.bool (!isLabelL x.data.toList)) ∧ Below W.heap.size W W' :=
  impl_NameOf_1.calls x _ W (by unfold impl_NameOf_1.f; rw [isLabel_eq]; rfl)

set_option maxHeartbeats 4000000 in
theorem impl_NameOf.calls (A0 : Option Addr) (c0 : Nat) (l0 : List ByteArray) (r1 : ByteArray) (r2 : Bool) (w : World) (hr0 : Kd.C Kd.string w A0 l0.length l0) (hc0 : l0.length ≤ c0) (h : impl_NameOf.f l0 = some (r1, r2))
    (hs : ∀ ad, A0 = some ad → ad.spot = none := by first | exact spot_R (Aside0.out (by assumption)) | exact spot_R (by assumption)) :
    Calls Tryz.prog 175 #[.slice A0 l0.length c0] w fun e w' => e = .returned (.tuple #[.string r1, .bool r2]) ∧ Below w.heap.size w w' := by
  have HR : Aside0 (nameR l0 = (r1, r2)) := ⟨Option.some.inj h⟩
  clear h
  unfold nameR at HR
  by_cases h8 : l0.length ≤ 8
  · have eg : ∀ args w, (callFunc 207 args).run Tryz.prog w = .ok (.enter 207 args) w := enters_of Tryz.func207 (by kernel_rfl) rfl
    have cc := contains_str A0 c0 l0 207 #[] (fun x => !isLabelL x.data.toList) w hr0 eg (fun x _ W' _ => name_closure x W')
    have hany : l0.any (fun x => !isLabelL x.data.toList) = !l0.all (fun x => isLabelL x.data.toList) := by rw [List.not_all_eq_any_not]
    rw [hany] at cc
    rw [decide_eq_true h8, Bool.true_and] at HR
    have h8a : decide (8 < l0.length) = false := decide_eq_false (by omega)
    have h8b : decide ((8 : Int) < (l0.length : Int)) = false := decide_eq_false (by omega)
    have hsz := Aside0.mk (fun (ha : l0.all (fun x => isLabelL x.data.toList) = true) => joinL_len l0 (fun x hx => by
      rw [size_len]; exact label_size (List.all_eq_true.1 ha x hx)))
    cases ha : l0.all (fun x => isLabelL x.data.toList) with
    | false =>
      rw [ha] at cc
      rw [ha, if_neg (by simp)] at HR
      obtain ⟨rfl, rfl⟩ := Prod.mk.inj HR.out
      clear HR hsz ha hany
      go_enter Tryz.func175, Tryz.ntmps175
      go_wp2_with (first | (go_at_call 145; refine cc.mono ?_; rintro e w1 ⟨rfl, hb⟩))
      go_ret2
      exact ⟨rfl, hb⟩
    | true =>
      rw [ha] at cc
      rw [ha, if_pos rfl] at HR
      have hlen := hsz.out ha
      have hjs : (joinL l0).length < 4294967281 := by omega
      clear hsz ha hany
      have hj := Aside0.mk (fun W (hb : Below w.heap.size w W) => join_calls A0 c0 l0 W (Kd.C_below hr0 hb) hc0 hs (by omega) h8)
      have gc := fun W => impl_GoodName.calls (mkB (joinL l0)) _ W rfl
      rw [mkB_data] at gc
      clear hlen
      cases hg : goodL (joinL l0) with
      | true =>
        rw [hg] at gc
        rw [hg, if_pos rfl] at HR
        obtain ⟨rfl, rfl⟩ := Prod.mk.inj HR.out
        clear HR hg
        go_enter Tryz.func175, Tryz.ntmps175
        go_wp2_with (first | (go_at_call 145; refine cc.mono ?_; rintro e w1 ⟨rfl, hb⟩) | (go_at_call 57; refine (hj.out _ hb).mono ?_; rintro e w2 ⟨rfl, hb2⟩) | (go_at_call 83; refine (gc _).mono ?_; rintro e w3 ⟨rfl, hb3⟩))
        go_ret2
        exact ⟨rfl, below_then (below_then hb hb.size hb2) (below_then hb hb.size hb2).size hb3⟩
      | false =>
        rw [hg] at gc
        rw [hg, if_neg (by simp)] at HR
        obtain ⟨rfl, rfl⟩ := Prod.mk.inj HR.out
        clear HR hg
        go_enter Tryz.func175, Tryz.ntmps175
        go_wp2_with (first | (go_at_call 145; refine cc.mono ?_; rintro e w1 ⟨rfl, hb⟩) | (go_at_call 57; refine (hj.out _ hb).mono ?_; rintro e w2 ⟨rfl, hb2⟩) | (go_at_call 83; refine (gc _).mono ?_; rintro e w3 ⟨rfl, hb3⟩))
        go_ret2
        exact ⟨rfl, below_then (below_then hb hb.size hb2) (below_then hb hb.size hb2).size hb3⟩
  · have h8a : decide (8 < l0.length) = true := decide_eq_true (by omega)
    have h8b : decide ((8 : Int) < (l0.length : Int)) = true := decide_eq_true (by omega)
    rw [decide_eq_false h8, Bool.false_and, if_neg (by simp)] at HR
    obtain ⟨rfl, rfl⟩ := Prod.mk.inj HR.out
    clear HR h8
    go_enter Tryz.func175, Tryz.ntmps175
    go_wp2
    go_ret2
    exact ⟨rfl, Below.refl _ _⟩
end Go.Proofs.YtiegkjimpclmaaaGreatDoor.P

-- HItoa
/- strconv.Itoa: the decimal digits. Conditions: the library's variables hold what the row lists. -/
namespace Go.Proofs.YtiegkjimpclmaaaGreatDoor.P
open Go.Shelf Go.RowKit Go.Proofs.YtiegkjimpclmaaaGreatDoorW.PrintWords Go.Proofs.YtiegkjimpclmaaaGreatDoorW.PrintLast Go.Proofs.YtiegkjimpclmaaaGreatDoorW.PrintMore
set_option linter.unusedVariables false
set_option linter.unusedSimpArgs false
def strconv_Itoa.f (v : Int) : Option ByteArray :=
  if -9223372036854775808 ≤ v ∧ v ≤ 9223372036854775807 then some ⟨(Lib.itoa v).toArray⟩ else none
theorem strconv_Itoa.calls (a0 : Int) (r : ByteArray) (w : World) (h : strconv_Itoa.f a0 = some r)
    (hv : Vars w := by first | assumption | (refine Vars.below (Aside0.out (by assumption)) ?_; repeat (first | (with_reducible first | exact Below.refl _ _ | exact Aside0.out (by assumption) | apply below_alloc | apply pw_below_drewN | apply below_drew1) | exact Aside0.out (by assumption)))) :
    Calls Tryz.prog 56 #[.int .i64 a0] w fun e w' => e = .returned (.string r) ∧ Below w.heap.size w w' := by
  unfold strconv_Itoa.f at h
  by_cases hb : -9223372036854775808 ≤ a0 ∧ a0 ≤ 9223372036854775807
  · rw [if_pos hb] at h
    obtain rfl := Option.some.inj h
    exact (Any.strconv_Itoa Tryz.itoa a0 hb.1 hb.2 w hv.tab).mono fun e w' ⟨he, k, os, hw⟩ => ⟨he, by rw [hw]; exact grow_below⟩
  · rw [if_neg hb] at h; cases h
end Go.Proofs.YtiegkjimpclmaaaGreatDoor.P
