/- FnExactQuestionFor: part 24 of 27 of my texts for this claim, joined; the theorem stands in the last. Conditions: none beyond the statement's. -/
import Derived.Test.YtkpkfallgjdkmaaGreatDoorMFnExactQuestionForx22
import Derived.Test.YtkpkfallgjdkmaaGreatDoorMFnExactQuestionForx2
import Derived.Test.YtkpkfallgjdkmaaGreatDoorMFnExactQuestionForx7
import Derived.Test.YtkpkfallgjdkmaaGreatDoorMFnExactQuestionForx12
-- PureDataB
/- DataBytes: the reference and the program return the same. Conditions: the text's size. -/
namespace Go.Proofs.YtkpkfallgjdkmaaGreatDoor.Pure
open Go.RowKit Go.Proofs.YtkpkfallgjdkmaaGreatDoor.P Go.Proofs.YtkpkfallgjdkmaaGreatDoorW.PrintWords Go.Proofs.YtkpkfallgjdkmaaGreatDoorW.PrintLast Go.Proofs.YtkpkfallgjdkmaaGreatDoorW.PrintMore
set_option linter.unusedVariables false
set_option linter.unusedSimpArgs false
theorem num_in (l : List UInt8) (most : Int) (h : 0 ≤ most) : decide (0 ≤ numS l ∧ numS l ≤ most) = (canL l && decide ((valL l : Int) ≤ most)) := by
  unfold numS
  by_cases hc : canL l = true
  · rw [if_pos hc, hc, Bool.true_and, decide_eq_decide]
    omega
  · rw [if_neg hc, Bool.eq_false_iff.mpr hc, Bool.false_and, decide_eq_false_iff_not]
    omega
theorem num_ok {l : List UInt8} {most : Int} (h : (canL l && decide ((valL l : Int) ≤ most)) = true) : numS l = (valL l : Int) := by
  rw [Bool.and_eq_true] at h
  unfold numS
  rw [if_pos h.1]
theorem s1 (v : Int) : (strOfNums [v]).size = 1 := by rw [strOfNums_size]; rfl
theorem a_loops (parts : List ByteArray) (hl : parts.length < 1099511627776) (hs : ∀ x ∈ parts, x.size ≤ 1048576) : ∀ (m i : Nat) (out : ByteArray), i + m = parts.length → out.size + m < 1099511627777 →
    ∃ r, Ev (fun k => spec_l3Bytes.l0 k out parts parts (parts.length : Int) (i : Int)) r ∧ ((parts.length : Int) = 4 → Ev (fun k => impl_DataBytes.l0 k parts out (i : Int)) r) ∧ (¬ (parts.length : Int) = 4 → r.2 = false) ∧ (r.2 = false → r.1 = (⟨#[]⟩ : ByteArray) ∨ ¬ (parts.length : Int) = 4)
  | 0, i, out, him, ho => by
    refine ⟨(out, (parts.length : Int) == 4), Ev.step (f := fun _ => some (out, (parts.length : Int) == 4)) (fun k => ?_) (Ev.now _), fun h4 => ?_, fun h4 => beq_eq_false_iff_ne.mpr h4, fun h4 => .inr (beq_eq_false_iff_ne.mp h4)⟩
    · show spec_l3Bytes.l0 (k + 1) out parts parts (parts.length : Int) (i : Int) = _
      conv => lhs; unfold spec_l3Bytes.l0
      rw [if_neg (by omega)]
    · rw [h4]
      refine Ev.step (f := fun _ => some (out, true)) (fun k => ?_) (Ev.now _)
      show impl_DataBytes.l0 (k + 1) parts out (i : Int) = _
      conv => lhs; unfold impl_DataBytes.l0
      rw [if_neg (by omega)]
  | m + 1, i, out, him, ho => by
    have hi : i < parts.length := by omega
    have hsz := hs _ (List.getElem_mem hi)
    obtain ⟨v, hn1, hn2⟩ := number_eq parts[i] 255 (by omega) (by omega) (by omega)
    have hin := int_ev parts[i] (by omega)
    have es : ∀ k, spec_l3Bytes.l0 (k + 1) out parts parts (parts.length : Int) (i : Int) = (spec_l1Int.f k parts[i]).bind fun t135 => ((spec_l1In.f t135 0 255).bind fun t136 => (if t136 = true then ((spec_l3Number.f k t135 1).bind fun t137 => (if out.size + t137.size ≤ 9223372036854775807 then (spec_l3Bytes.l0 k (out ++ t137) parts parts (parts.length : Int) ((i + 1 : Nat) : Int)) else (none))) else (some ((⟨#[]⟩ : ByteArray), false)))) := fun k => by
      conv => lhs; unfold spec_l3Bytes.l0
      rw [if_pos (by omega), if_pos (by omega), if_pos (by omega), td_rd parts i hi, w64n (by omega)]
    have ei : (parts.length : Int) = 4 → ∀ k, impl_DataBytes.l0 (k + 1) parts out (i : Int) = if (canL parts[i].data.toList && decide ((valL parts[i].data.toList : Int) ≤ 255)) = true then ((impl_big.f k v 1).bind fun t => (if out.size + t.size ≤ 9223372036854775807 then impl_DataBytes.l0 k parts (out ++ t) ((i + 1 : Nat) : Int) else none)) else some badD := fun h4 k => by
      conv => lhs; unfold impl_DataBytes.l0
      rw [if_pos (by omega), if_pos (by omega), td_rd parts i hi, hn1, Option.bind_some, w64n (by omega)]
      simp only [if_pos h4]
    have hdec := num_in parts[i].data.toList 255 (by omega)
    by_cases hb : (canL parts[i].data.toList && decide ((valL parts[i].data.toList : Int) ≤ 255)) = true
    · have hv := hn2 hb
      have hnv := num_ok hb
      obtain ⟨r, g1, g2, g3, g4⟩ := a_loops parts hl hs m (i + 1) (out ++ strOfNums [v % 256]) (by omega) (by rw [ByteArray.size_append, s1]; omega)
      refine ⟨r, Ev.step es (Ev.bind hin ?_), fun h4 => Ev.step (ei h4) ?_, g3, g4⟩
      · simp only [within_spec, Option.bind_some, hdec, hb, if_true]
        rw [hnv, ← hv]
        refine Ev.bind (num1 v) ?_
        simp only [if_pos (show out.size + (strOfNums [v % 256]).size ≤ 9223372036854775807 by rw [s1]; omega)]
        exact g1
      · simp only [hb, if_true]
        refine Ev.bind (big1 v) ?_
        simp only [if_pos (show out.size + (strOfNums [v % 256]).size ≤ 9223372036854775807 by rw [s1]; omega)]
        exact g2 h4
    · refine ⟨badD, Ev.step es (Ev.bind hin ?_), fun h4 => Ev.step (ei h4) ?_, fun _ => rfl, fun _ => .inl rfl⟩
      · simp only [within_spec, Option.bind_some, hdec, if_neg hb]
        exact Ev.now _
      · simp only [if_neg hb]
        exact Ev.now _
theorem txt_loop (s : ByteArray) (hs : s.size ≤ 1048576) : ∀ (m i : Nat), i + m = s.size →
    Ev (fun k => spec_l3Bytes.l1 k s (i : Int)) (if ((bytesOf s).drop i).any (fun c => decide (c < 32) || decide (c > 126)) = true then badD else (strOfNums [((s.size : Int)) % 256] ++ s, decide ((s.size : Int) ≤ 30)))
  | 0, i, him => by
    have hlen : (bytesOf s).length = s.size := bytes_len s
    rw [List.drop_of_length_le (by omega), List.any_nil, if_neg (by simp)]
    refine Ev.step (f := fun _ => some _) (fun k => ?_) (Ev.now _)
    show spec_l3Bytes.l1 (k + 1) s (i : Int) = _
    conv => lhs; unfold spec_l3Bytes.l1
    rw [if_neg (by omega), Option.bind_some, if_pos (by rw [s1]; omega)]
  | m + 1, i, him => by
    have hlen : (bytesOf s).length = s.size := bytes_len s
    have hi : i < (bytesOf s).length := by omega
    have hb : bt s (i : Int) = (bytesOf s)[i] := by
      rw [← rd_bytesOf]
      unfold rd
      rw [Int.toNat_natCast, List.getD_eq_getElem?_getD, List.getElem?_eq_getElem hi]
      rfl
    rw [List.drop_eq_getElem_cons hi, List.any_cons]
    have e0 : ∀ k, spec_l3Bytes.l1 (k + 1) s (i : Int) = (if (bytesOf s)[i] < 32 then (some ((⟨#[]⟩ : ByteArray), false)) else (if (bytesOf s)[i] > 126 then (some ((⟨#[]⟩ : ByteArray), false)) else (spec_l3Bytes.l1 k s ((i + 1 : Nat) : Int)))) := fun k => by
      conv => lhs; unfold spec_l3Bytes.l1
      rw [if_pos (by omega), if_pos (by omega), hb, w64n (by omega)]
    have ih := txt_loop s hs m (i + 1) (by omega)
    by_cases h1 : (bytesOf s)[i] < 32
    · rw [decide_eq_true h1, Bool.true_or, Bool.true_or, if_pos rfl]
      refine Ev.step e0 ?_
      simp only [if_pos h1]
      exact Ev.now _
    · by_cases h2 : (bytesOf s)[i] > 126
      · rw [decide_eq_true h2, Bool.or_true, Bool.true_or, if_pos rfl]
        refine Ev.step e0 ?_
        simp only [if_neg h1, if_pos h2]
        exact Ev.now _
      · rw [decide_eq_false h1, decide_eq_false h2, Bool.or_false, Bool.false_or]
        refine Ev.step e0 ?_
        simp only [if_neg h1, if_neg h2]
        exact ih
theorem a_bad (parts : List ByteArray) (hp : 0 < parts.length) (h4 : ¬ (parts.length : Int) = 4) (hs : ∀ x ∈ parts, x.size ≤ 1048576) : Ev (fun k => impl_DataBytes.l0 k parts (⟨#[]⟩ : ByteArray) 0) badD := by
  obtain ⟨v, hn1, _⟩ := number_eq parts[0] 255 (by have := hs _ (List.getElem_mem hp); omega) (by omega) (by omega)
  refine Ev.step (f := fun _ => some badD) (fun k => ?_) (Ev.now _)
  show impl_DataBytes.l0 (k + 1) parts (⟨#[]⟩ : ByteArray) ((0 : Nat) : Int) = _
  conv => lhs; unfold impl_DataBytes.l0
  rw [if_pos (by omega), if_pos (by omega), td_rd parts 0 hp, hn1, Option.bind_some]
  simp only [if_neg h4]
  split <;> rfl
/-- The reference's bytes of data, none where it isn't good. -/
def specData (k : Nat) (kind : Int) (s : ByteArray) : Option (ByteArray × Bool) := (spec_l3Bytes.f k kind s).bind fun bt159 => (if bt159.2 = true then (some (bt159.1, true)) else (some ((⟨#[]⟩ : ByteArray), false)))
theorem spec_done {kind : Int} {s : ByteArray} {q : ByteArray × Bool} (h : Ev (fun k => spec_l3Bytes.f k kind s) q) : Ev (fun k => specData k kind s) (if q.2 = true then (q.1, true) else badD) := by
  refine Ev.congr (fun k => rfl) (Ev.bind h ?_)
  by_cases hq : q.2 = true
  · simp only [if_pos hq]; exact Ev.now _
  · simp only [if_neg hq]; exact Ev.now _
/-- DataBytes, as a whole. -/
def DataEq (kind : Int) (s : ByteArray) : Prop := ∃ r, Ev (fun k => specData k kind s) r ∧ Ev (fun k => impl_DataBytes.f k kind s) r
theorem data_one (s : ByteArray) (hs : s.size ≤ 1048576) : DataEq 1 s := by
  have hne := splitL_ne 46 s.data.toList
  have hpl : 0 < ((splitL 46 s.data.toList).map mkB).length := by rw [List.length_map]; exact List.length_pos_iff.2 hne
  have hlen : ((splitL 46 s.data.toList).map mkB).length ≤ s.size + 1 := by rw [List.length_map, size_len]; exact splitL_len _ _
  have hsz : ∀ x ∈ (splitL 46 s.data.toList).map mkB, x.size ≤ 1048576 := by
    intro x hx
    obtain ⟨q, hq, rfl⟩ := List.mem_map.1 hx
    have := splitL_part 46 _ q hq
    rw [← size_len] at this
    rw [mkB_size]
    omega
  have hsp : strings_Split.f s (⟨#[46]⟩ : ByteArray) = some ((splitL 46 s.data.toList).map mkB) := by
    unfold strings_Split.f
    rw [if_pos (show (⟨#[46]⟩ : ByteArray).size = 1 from rfl), if_pos (by omega)]
    rfl
  generalize hp : (splitL 46 s.data.toList).map mkB = parts at hpl hlen hsz hsp
  have hse := split_ev s (by omega)
  rw [hp] at hse
  obtain ⟨r, g1, g2, g3, g4⟩ := a_loops parts (by omega) hsz parts.length 0 (⟨#[]⟩ : ByteArray) (by omega) (by show 0 + _ < _; omega)
  have hspec : Ev (fun k => spec_l3Bytes.f k 1 s) r := Ev.congr (f := fun k => (spec_l1Split.f k s 46).bind fun t131 => (spec_l3Bytes.l0 k (⟨#[]⟩ : ByteArray) t131 t131 (t131.length : Int) 0)) (fun k => by unfold spec_l3Bytes.f; rw [if_pos rfl]) (Ev.bind hse g1)
  have ei : ∀ k, impl_DataBytes.f k 1 s = impl_DataBytes.l0 k parts (⟨#[]⟩ : ByteArray) 0 := fun k => by
    unfold impl_DataBytes.f
    rw [if_pos rfl, hsp, Option.bind_some]
  by_cases h4 : (parts.length : Int) = 4
  · refine ⟨r, ?_, Ev.congr ei (g2 h4)⟩
    have hd := spec_done hspec
    by_cases hr : r.2 = true
    · rw [if_pos hr] at hd
      have : (r.1, true) = r := Prod.ext rfl hr.symm
      rwa [this] at hd
    · rw [if_neg hr] at hd
      have hf := Bool.eq_false_iff.mpr hr
      have : badD = r := by
        rcases g4 hf with e | e
        · exact Prod.ext e.symm hf.symm
        · exact absurd h4 e
      rwa [this] at hd
  · refine ⟨badD, ?_, Ev.congr ei (a_bad parts hpl h4 hsz)⟩
    have hd := spec_done hspec
    rwa [g3 h4, if_neg (by simp)] at hd
theorem targ_good {l : List UInt8} (h : targL l = true) : goodL l = true := by
  unfold targL at h
  simp only [Bool.and_eq_true] at h
  exact h.2.1
theorem nb_targ (s : ByteArray) (h : targL s.data.toList = true) : ∃ r, Ev (fun k => impl_labelBytes.f k s) r ∧ Ev (fun k => spec_l2Bytes.f k s) (r ++ (⟨#[0]⟩ : ByteArray)) ∧ r.size ≤ 61 := by
  have hg := targ_good h
  obtain ⟨r, e1, e2, e3⟩ := nb_both s hg
  have := good_size hg
  rw [← size_len] at this
  exact ⟨r, e1, e2, by rw [e3]; split <;> omega⟩
theorem data_name (kind : Int) (hk : kind = 2 ∨ kind = 5) (s : ByteArray) (hs : s.size ≤ 1048576) : DataEq kind s := by
  have k1 : ¬ kind = 1 := by omega
  have hj : ∀ k, spec_l3Bytes.f k kind s = spec_l3Bytes.j1 k s kind true := fun k => by
    unfold spec_l3Bytes.f
    rw [if_neg k1]
    rcases hk with rfl | rfl
    · rw [if_pos rfl]; rfl
    · rw [if_neg (by omega)]; rfl
  have ei : ∀ k, impl_DataBytes.f k kind s = dataNs k s := fun k => by
    unfold impl_DataBytes.f
    rw [if_neg k1, if_pos hk]
  have et := target_impl s
  by_cases ht : targL s.data.toList = true
  · obtain ⟨r, e1, e2, e3⟩ := nb_targ s ht
    have hz : (r ++ (⟨#[0]⟩ : ByteArray)).size = r.size + 1 := by rw [ByteArray.size_append]; rfl
    refine ⟨(r ++ (⟨#[0]⟩ : ByteArray), true), ?_, ?_⟩
    · have : Ev (fun k => spec_l3Bytes.f k kind s) (r ++ (⟨#[0]⟩ : ByteArray), true) := by
        refine Ev.congr hj (Ev.step (f := fun k => (spec_l3Target.f k s).bind fun t138 => (if t138 = true then ((spec_l2Bytes.f k s).bind fun t139 => (some (t139, true))) else (some ((⟨#[]⟩ : ByteArray), false)))) (fun k => rfl) (Ev.bind (target_spec s hs) ?_))
        simp only [if_pos ht]
        exact Ev.bind e2 (Ev.now _)
      have hd := spec_done this
      rwa [if_pos rfl] at hd
    · refine Ev.congr ei ?_
      unfold dataNs
      simp only [et, Option.bind_some, if_pos ht]
      refine Ev.bind e1 ?_
      simp only [if_pos (show r.size + 1 ≤ 9223372036854775807 by omega)]
      exact Ev.now _
  · refine ⟨badD, ?_, ?_⟩
    · have : Ev (fun k => spec_l3Bytes.f k kind s) badD := by
        refine Ev.congr hj (Ev.step (f := fun k => (spec_l3Target.f k s).bind fun t138 => (if t138 = true then ((spec_l2Bytes.f k s).bind fun t139 => (some (t139, true))) else (some ((⟨#[]⟩ : ByteArray), false)))) (fun k => rfl) (Ev.bind (target_spec s hs) ?_))
        simp only [if_neg ht]
        exact Ev.now _
      exact spec_done this
    · refine Ev.congr ei ?_
      unfold dataNs
      simp only [et, Option.bind_some, if_neg ht]
      exact Ev.now _
theorem spec_j (kind : Int) (h1 : ¬ kind = 1) (h2 : ¬ kind = 2) (h5 : ¬ kind = 5) (s : ByteArray) (k : Nat) : spec_l3Bytes.f k kind s = spec_l3Bytes.j1 k s kind false := by
  unfold spec_l3Bytes.f
  rw [if_neg h1, if_neg h2, show (kind == 5) = false from beq_eq_false_iff_ne.mpr h5]
theorem data_serial (s : ByteArray) (hs : s.size ≤ 1048576) : DataEq 6 s := by
  obtain ⟨v, hn1, hn2⟩ := number_eq s 4294967295 (by omega) (by omega) (by omega)
  have hin := int_ev s (by omega)
  have hdec := num_in s.data.toList 4294967295 (by omega)
  have ei : ∀ k, impl_DataBytes.f k 6 s = dataSoa k s := fun k => by
    unfold impl_DataBytes.f
    rw [if_neg (by omega), if_neg (by omega), if_pos rfl]
  have hspec : Ev (fun k => spec_l3Bytes.f k 6 s) (strOfNums [numS s.data.toList / 16777216 % 256, numS s.data.toList / 65536 % 256, numS s.data.toList / 256 % 256, numS s.data.toList % 256], canL s.data.toList && decide ((valL s.data.toList : Int) ≤ 4294967295)) := by
    refine Ev.congr (fun k => spec_j 6 (by omega) (by omega) (by omega) s k) (Ev.step (f := fun k => (spec_l1Int.f k s).bind fun t140 => ((spec_l3Number.f k t140 4).bind fun t141 => ((spec_l1In.f t140 0 4294967295).bind fun t142 => (some (t141, t142))))) (fun k => rfl) (Ev.bind hin (Ev.bind (num4 _) ?_)))
    simp only [within_spec, Option.bind_some, hdec]
    exact Ev.now _
  have hd := spec_done hspec
  by_cases hb : (canL s.data.toList && decide ((valL s.data.toList : Int) ≤ 4294967295)) = true
  · have hv := hn2 hb
    have hnv := num_ok hb
    rw [if_pos hb, hnv, ← hv] at hd
    refine ⟨_, hd, Ev.congr ei ?_⟩
    unfold dataSoa
    simp only [hn1, Option.bind_some, if_pos hb]
    exact Ev.bind (big4 v) (Ev.now _)
  · rw [if_neg hb] at hd
    refine ⟨_, hd, Ev.congr ei ?_⟩
    unfold dataSoa
    simp only [hn1, Option.bind_some, if_neg hb]
    exact Ev.now _
theorem data_text (s : ByteArray) (hs : s.size ≤ 1048576) : DataEq 16 s := by
  have ei : ∀ k, impl_DataBytes.f k 16 s = dataTxt k s := fun k => by
    unfold impl_DataBytes.f
    rw [if_neg (by omega), if_neg (by omega), if_neg (by omega), if_neg (by omega), if_pos rfl]
  have hspec : Ev (fun k => spec_l3Bytes.f k 16 s) (if (bytesOf s).any (fun c => decide (c < 32) || decide (c > 126)) = true then badD else (strOfNums [((s.size : Int)) % 256] ++ s, decide ((s.size : Int) ≤ 30))) :=
    Ev.congr (fun k => spec_j 16 (by omega) (by omega) (by omega) s k) (Ev.step (f := fun k => spec_l3Bytes.l1 k s 0) (fun k => rfl) (txt_loop s hs s.size 0 (by omega)))
  have hd := spec_done hspec
  by_cases hb : (bytesOf s).any (fun c => decide (c < 32) || decide (c > 126)) = true
  · rw [if_pos hb] at hd
    refine ⟨_, hd, Ev.congr ei ?_⟩
    unfold dataTxt
    by_cases h30 : (s.size : Int) > 30
    · simp only [if_pos h30]; exact Ev.now _
    · simp only [if_neg h30, if_pos hb]; exact Ev.now _
  · rw [if_neg hb] at hd
    by_cases h30 : (s.size : Int) > 30
    · rw [decide_eq_false (show ¬ (s.size : Int) ≤ 30 by omega), if_neg (by simp)] at hd
      refine ⟨_, hd, Ev.congr ei ?_⟩
      unfold dataTxt
      simp only [if_pos h30]; exact Ev.now _
    · rw [decide_eq_true (show (s.size : Int) ≤ 30 by omega), if_pos rfl] at hd
      refine ⟨_, hd, Ev.congr ei ?_⟩
      unfold dataTxt
      simp only [if_neg h30, if_neg hb]
      refine Ev.bind (big1 _) ?_
      simp only [if_pos (show (strOfNums [(s.size : Int) % 256]).size + s.size ≤ 9223372036854775807 by rw [s1]; omega)]
      exact Ev.now _
theorem space_bad {r : List UInt8} (h : 32 ∈ r) : targL r = false := by
  rw [Bool.eq_false_iff]
  intro ht
  have hg := good_all (targ_good ht)
  have hne : r ≠ [] := by rintro rfl; cases h
  obtain ⟨p, hp, hb⟩ := (split_mem r 32 (by decide)).1 h
  have := hg.2 p (by unfold labelsL; rw [if_neg hne]; exact hp)
  unfold isLabelL at this
  rw [Bool.or_eq_true, beq_iff_eq, Bool.and_eq_true, List.all_eq_true] at this
  rcases this with e | e
  · rw [e] at hb; simp at hb
  · exact absurd (e.2 32 hb) (by decide)
theorem data_mail (s : ByteArray) (hs : s.size ≤ 1048576) : DataEq 15 s := by
  have ei : ∀ k, impl_DataBytes.f k 15 s = dataMx k s := fun k => by
    unfold impl_DataBytes.f
    rw [if_neg (by omega), if_neg (by omega), if_neg (by omega), if_pos rfl]
  have hse := split32_ev s (by omega)
  have hj : ∀ {q : ByteArray × Bool}, Ev (fun k => (spec_l1Split.f k s 32).bind fun t143 => (if (t143.length : Int) = 2 then (if 0 < (t143.length : Int) then ((spec_l1Int.f k (rdOf ByteArray.empty t143 0)).bind fun t147 => ((spec_l1In.f t147 0 65535).bind fun t148 => (if t148 = true then (if 1 < (t143.length : Int) then ((spec_l3Target.f k (rdOf ByteArray.empty t143 1)).bind fun t150 => (spec_l3Bytes.j2 k t143 (!t150))) else (none)) else (spec_l3Bytes.j2 k t143 true)))) else (none)) else (spec_l3Bytes.j2 k t143 true))) q → Ev (fun k => spec_l3Bytes.f k 15 s) q := fun h =>
    Ev.congr (fun k => spec_j 15 (by omega) (by omega) (by omega) s k) (Ev.step (fun k => rfl) h)
  have jbad : ∀ l, Ev (fun k => spec_l3Bytes.j2 k l true) badD := fun l => Ev.step (f := fun _ => some badD) (fun k => rfl) (Ev.now _)
  have hcutI : ∀ p r, s.data.toList = p ++ 32 :: r → (∀ x ∈ p, x ≠ 32) → strings_Cut.f s (⟨#[32]⟩ : ByteArray) = some (mkB p, mkB r, true) := by
    intro p r h1 h2
    have hix : Lib.indexByte s.data.toList 32 = (p.length : Int) := by
      rcases place_or 32 s.data.toList with ⟨_, g2⟩ | ⟨p', r', g1, g2, g3⟩
      · exact absurd rfl (g2 32 (by rw [h1]; simp))
      · have e : p' :: splitL 32 r' = p :: splitL 32 r := by rw [← splitL_hit 32 p' r' g2, ← g1, h1, splitL_hit 32 p r h2]
        rw [g3, (List.cons.inj e).1]
    have hl : p.length + (r.length + 1) = s.size := by rw [size_len, h1]; simp
    unfold strings_Cut.f stringslite_Cut.f internal_stringslite_Index.f
    rw [if_pos (show (⟨#[32]⟩ : ByteArray).size = 1 from rfl)]
    simp only [Option.bind_some]
    rw [show List.headD (⟨#[32]⟩ : ByteArray).data.toList 0 = 32 from rfl, show (⟨#[32]⟩ : ByteArray).size = 1 from rfl, hix, show (((1 : Nat) : Int)) = 1 from rfl, w64n (by omega), if_pos (by omega), if_pos (by omega), if_pos (by omega), if_pos (by omega), if_pos (by omega), Int.toNat_natCast, Int.toNat_natCast, ext_mkB, ext_end]
    have e1 : (s.data.toList.drop 0).take (p.length - 0) = p := by rw [h1]; simp
    have e2 : s.data.toList.drop (p.length + 1) = r := by
      rw [h1, show p ++ 32 :: r = (p ++ [32]) ++ r by simp, List.drop_append_of_le_length (by simp), List.drop_of_length_le (by simp), List.nil_append]
    rw [e1, e2]
    rfl
  rcases place_or 32 s.data.toList with ⟨h1, h2⟩ | ⟨p, r, h1, h2, h3⟩
  · -- no space
    refine ⟨badD, ?_, Ev.congr ei ?_⟩
    · refine spec_done (q := badD) (hj (Ev.bind hse ?_))
      rw [splitL_none _ _ h2]
      simp only [List.map_cons, List.map_nil, List.length_cons, List.length_nil]
      exact jbad _
    · have hcut : strings_Cut.f s (⟨#[32]⟩ : ByteArray) = some (s, (⟨#[]⟩ : ByteArray), false) := by
        unfold strings_Cut.f stringslite_Cut.f internal_stringslite_Index.f
        rw [if_pos (show (⟨#[32]⟩ : ByteArray).size = 1 from rfl)]
        simp only [Option.bind_some]
        rw [show List.headD (⟨#[32]⟩ : ByteArray).data.toList 0 = 32 from rfl, h1, if_neg (by omega)]
        rfl
      obtain ⟨v, hn1, _⟩ := number_eq s 65535 (by omega) (by omega) (by omega)
      unfold dataMx
      simp only [hcut, Option.bind_some, hn1, target_impl]
      have : targL (⟨#[]⟩ : ByteArray).data.toList = false := rfl
      rw [this]
      refine Ev.congr (f := fun _ => some badD) (fun k => ?_) (Ev.now _)
      split <;> rfl
  · have hcut := hcutI p r h1 h2
    have hsl : splitL 32 s.data.toList = p :: splitL 32 r := by rw [h1]; exact splitL_hit 32 p r h2
    have hsz : p.length + r.length + 1 = s.size := by rw [size_len, h1]; simp; omega
    obtain ⟨v, hn1, hn2⟩ := number_eq (mkB p) 65535 (by rw [mkB_size]; omega) (by omega) (by omega)
    rw [mkB_data] at hn1 hn2
    have hei : ∀ k, dataMx k s = (if (canL p && decide ((valL p : Int) ≤ 65535)) = true then (if targL r = true then ((impl_big.f k v 2).bind fun g => ((impl_labelBytes.f k (mkB r)).bind fun lb => (if g.size + lb.size ≤ 9223372036854775807 then (if g.size + lb.size + 1 ≤ 9223372036854775807 then some ((g ++ lb) ++ (⟨#[0]⟩ : ByteArray), true) else none) else none))) else some badD) else some badD) := fun k => by
      unfold dataMx
      simp only [hcut, Option.bind_some, hn1, target_impl, mkB_data]
    have hdec := num_in p 65535 (by omega)
    have hin := int_ev (mkB p) (by rw [mkB_size]; omega)
    rw [mkB_data] at hin
    rcases place_or 32 r with ⟨_, r2⟩ | ⟨p', r', r1, _, _⟩
    · -- two parts
      rw [hsl, splitL_none _ _ r2] at hse
      simp only [List.map_cons, List.map_nil] at hse
      have htg := target_spec (mkB r) (by rw [mkB_size]; omega)
      rw [mkB_data] at htg
      by_cases hb : (canL p && decide ((valL p : Int) ≤ 65535)) = true
      · by_cases ht : targL r = true
        · have hv := hn2 hb
          have hnv := num_ok hb
          obtain ⟨lb, e1, e2, e3⟩ := nb_targ (mkB r) (by rw [mkB_data]; exact ht)
          have g2s : (strOfNums [v / 256 % 256, v % 256]).size = 2 := by rw [strOfNums_size]; rfl
          refine ⟨((strOfNums [v / 256 % 256, v % 256] ++ lb) ++ (⟨#[0]⟩ : ByteArray), true), ?_, Ev.congr ei (Ev.congr hei ?_)⟩
          · have : Ev (fun k => spec_l3Bytes.f k 15 s) ((strOfNums [v / 256 % 256, v % 256] ++ lb) ++ (⟨#[0]⟩ : ByteArray), true) := by
              refine hj (Ev.bind hse ?_)
              simp only [List.length_cons, List.length_nil, show ((0 + 1 + 1 : Nat) : Int) = 2 from rfl, if_true, if_pos (show (0 : Int) < 2 by omega), if_pos (show (1 : Int) < 2 by omega)]
              refine Ev.bind (a := numS p) hin ?_
              simp only [within_spec, Option.bind_some, hdec, hb, if_true]
              refine Ev.bind (a := true) (by rw [← ht]; exact htg) ?_
              refine Ev.step (f := fun k => (spec_l1Int.f k (mkB p)).bind fun t152 => ((spec_l3Number.f k t152 2).bind fun t153 => ((spec_l2Bytes.f k (mkB r)).bind fun t155 => (if t153.size + t155.size ≤ 9223372036854775807 then (some (t153 ++ t155, true)) else (none))))) (fun k => rfl) (Ev.bind hin ?_)
              rw [hnv, ← hv]
              refine Ev.bind (num2 v) (Ev.bind e2 ?_)
              rw [← ByteArray.append_assoc]
              simp only [if_pos (show (strOfNums [v / 256 % 256, v % 256]).size + (lb ++ (⟨#[0]⟩ : ByteArray)).size ≤ 9223372036854775807 by rw [g2s, ByteArray.size_append]; show 2 + (lb.size + 1) ≤ _; omega)]
              exact Ev.now _
            have hd := spec_done this
            rwa [if_pos rfl] at hd
          · simp only [hb, ht, if_true]
            refine Ev.bind (big2 v) (Ev.bind e1 ?_)
            simp only [g2s, if_pos (show 2 + lb.size ≤ 9223372036854775807 by omega), if_pos (show 2 + lb.size + 1 ≤ 9223372036854775807 by omega)]
            exact Ev.now _
        · refine ⟨badD, ?_, Ev.congr ei (Ev.congr hei ?_)⟩
          · refine spec_done (q := badD) (hj (Ev.bind hse ?_))
            simp only [List.length_cons, List.length_nil, show ((0 + 1 + 1 : Nat) : Int) = 2 from rfl, if_true, if_pos (show (0 : Int) < 2 by omega), if_pos (show (1 : Int) < 2 by omega)]
            refine Ev.bind (a := numS p) hin ?_
            simp only [within_spec, Option.bind_some, hdec, hb, if_true]
            refine Ev.bind (a := false) (by rw [← Bool.eq_false_iff.mpr ht]; exact htg) ?_
            exact jbad _
          · simp only [hb, if_neg ht, if_true]
            exact Ev.now _
      · refine ⟨badD, ?_, Ev.congr ei (Ev.congr hei ?_)⟩
        · refine spec_done (q := badD) (hj (Ev.bind hse ?_))
          simp only [List.length_cons, List.length_nil, show ((0 + 1 + 1 : Nat) : Int) = 2 from rfl, if_true, if_pos (show (0 : Int) < 2 by omega), if_pos (show (1 : Int) < 2 by omega)]
          refine Ev.bind (a := numS p) hin ?_
          simp only [within_spec, Option.bind_some, hdec, if_neg hb]
          exact jbad _
        · simp only [if_neg hb]
          exact Ev.now _
    · -- more parts
      have htf := space_bad (r := r) (by rw [r1]; simp)
      refine ⟨badD, ?_, Ev.congr ei (Ev.congr hei ?_)⟩
      · refine spec_done (q := badD) (hj (Ev.bind hse ?_))
        have hl : ¬ (((splitL 32 s.data.toList).map mkB).length : Int) = 2 := by
          rw [List.length_map, hsl, r1, splitL_hit 32 p' r' (by assumption)]
          have := List.length_pos_iff.2 (splitL_ne 32 r')
          simp only [List.length_cons]
          omega
        simp only [if_neg hl]
        exact jbad _
      · simp only [htf, Bool.false_eq_true, if_false]
        refine Ev.congr (f := fun _ => some badD) (fun k => ?_) (Ev.now _)
        split <;> rfl
theorem data_both (kind : Int) (s : ByteArray) (hs : s.size ≤ 1048576) : DataEq kind s := by
  by_cases c1 : kind = 1
  · subst c1; exact data_one s hs
  · by_cases c2 : kind = 2 ∨ kind = 5
    · exact data_name kind c2 s hs
    · by_cases c6 : kind = 6
      · subst c6; exact data_serial s hs
      · by_cases c15 : kind = 15
        · subst c15; exact data_mail s hs
        · by_cases c16 : kind = 16
          · subst c16; exact data_text s hs
          · refine ⟨badD, ?_, Ev.congr (f := fun _ => some badD) (fun k => ?_) (Ev.now _)⟩
            · refine spec_done (q := badD) (Ev.congr (fun k => spec_j kind c1 (fun e => c2 (.inl e)) (fun e => c2 (.inr e)) s k) (Ev.step (f := fun _ => some badD) (fun k => ?_) (Ev.now _)))
              show spec_l3Bytes.j1 (k + 1) s kind false = some badD
              simp [spec_l3Bytes.j1, c6, c15, c16, badD]
            · unfold impl_DataBytes.f
              rw [if_neg c1, if_neg c2, if_neg c6, if_neg c15, if_neg c16]
end Go.Proofs.YtkpkfallgjdkmaaGreatDoor.Pure

-- F50
-- By my own call of the kit's print (wip/tools/pp.py).
namespace Go.Proofs.YtkpkfallgjdkmaaGreatDoor.P
open Go.RowKit Go.Proofs.YtkpkfallgjdkmaaGreatDoorW.PrintWords Go.Proofs.YtkpkfallgjdkmaaGreatDoorW.PrintLast Go.Proofs.YtkpkfallgjdkmaaGreatDoorW.PrintMore
attribute [local go_sem] max2_int min2_int max_two min_two max_three min_three max_four min_four
set_option linter.unusedVariables false
set_option linter.unusedSimpArgs false

/-! ### laws_szRecord: function 50 -/
def laws_szRecord.f (a0_0 : ByteArray) (a0_1 : Int) (a0_2 : Int) (a0_3 : ByteArray) (a1 : Int) : Option (Int) := if (wrap64 (a1 - (a0_0.size : Int))) < 0 then (some (-1)) else (if (wrap64 ((wrap64 (a1 - (a0_0.size : Int))) - (a0_3.size : Int))) < 0 then (some (-1)) else (some (wrap64 ((wrap64 (a1 - (a0_0.size : Int))) - (a0_3.size : Int)))))
set_option maxHeartbeats 8000000 in
set_option maxRecDepth 100000 in
theorem laws_szRecord.calls (a0_0 : ByteArray) (a0_1 : Int) (a0_2 : Int) (a0_3 : ByteArray) (a1 : Int) (r : Int) (w : World) (h : laws_szRecord.f a0_0 a0_1 a0_2 a0_3 a1 = some r) :
    Calls Tryz.prog 50 #[.agg #[.string a0_0, .int .i64 a0_1, .int .i64 a0_2, .string a0_3], .int .i64 a1] w fun e w' => e = .returned (.int .i64 r) ∧ Below w.heap.size w w' := by
  have hu71 := Tryz.underlying71
  have HB := Aside0.mk (Below.refl w.heap.size w)
  have H : (if (wrap64 (a1 - (a0_0.size : Int))) < 0 then (some (-1)) else (if (wrap64 ((wrap64 (a1 - (a0_0.size : Int))) - (a0_3.size : Int))) < 0 then (some (-1)) else (some (wrap64 ((wrap64 (a1 - (a0_0.size : Int))) - (a0_3.size : Int)))))) = some r := h
  clear h
  by_cases c3 : (wrap64 (a1 - (a0_0.size : Int))) < 0
  · rw [if_pos c3] at H
    have c3b0 : decide ((wrap64 (a1 - (a0_0.size : Int))) < 0) = true := decide_eq_true c3
    clear c3
    obtain rfl := Option.some.inj H
    go_enter Tryz.func50, Tryz.ntmps50
    go_wp2_with (first | ((with_reducible refine gate_dst (N := 2) rfl ?_); refine box_event ?hg (N := 2) ?hd (cs := #[.string a0_0, .int .i64 a0_1, .int .i64 a0_2, .string a0_3]) (t := 71) ?hr ?_; (case hd => rfl); (case hg => rfl); (case hr => first | (go_simp; done) | (go_simp; rfl)); intro gb296 hg w4 hbox hb; have n0_ := Aside0.mk (below_step bq0_ hb); have n1_ := Aside0.mk (hbox); have n2_ := Aside0.mk ((by rw [hg]; exact (below_size bq0_) : w.heap.size ≤ gb296)); have n3_ := Aside0.mk ((by rw [hg]; exact (below_size bq0_) : w.heap.size ≤ gb296)); clear HB; have HB := n0_; have BK296 := n1_; have GW296 := n2_; have GE296 := n3_; clear n0_ n1_ n2_ n3_; clear hb hbox hg; obtain ⟨hcz5_0, hcz5_1, hcz5_2, hcz5_3, hfz5_0, hfz5_1, hfz5_2, hfz5_3⟩ := bk4_ BK296.out))
    go_ret
    exact ⟨by first | rfl | (simp [errW_none, errW_some] <;> rfl) | (simp [*, errW_none, errW_some] <;> rfl), by repeat (first | (with_reducible first | exact HB.out | apply below_alloc | apply pw_below_drewN | apply below_drew1 | refine below_set ?_ GE296.out) | exact HB.out)⟩
  · rw [if_neg c3] at H
    have c3b0 : decide ((wrap64 (a1 - (a0_0.size : Int))) < 0) = false := decide_eq_false c3
    clear c3
    by_cases c6 : (wrap64 ((wrap64 (a1 - (a0_0.size : Int))) - (a0_3.size : Int))) < 0
    · rw [if_pos c6] at H
      have c6b0 : decide ((wrap64 ((wrap64 (a1 - (a0_0.size : Int))) - (a0_3.size : Int))) < 0) = true := decide_eq_true c6
      clear c6
      obtain rfl := Option.some.inj H
      go_enter Tryz.func50, Tryz.ntmps50
      go_wp2_with (first | ((with_reducible refine gate_dst (N := 2) rfl ?_); refine box_event ?hg (N := 2) ?hd (cs := #[.string a0_0, .int .i64 a0_1, .int .i64 a0_2, .string a0_3]) (t := 71) ?hr ?_; (case hd => rfl); (case hg => rfl); (case hr => first | (go_simp; done) | (go_simp; rfl)); intro gb296 hg w7 hbox hb; have n0_ := Aside0.mk (below_step bq0_ hb); have n1_ := Aside0.mk (hbox); have n2_ := Aside0.mk ((by rw [hg]; exact (below_size bq0_) : w.heap.size ≤ gb296)); have n3_ := Aside0.mk ((by rw [hg]; exact (below_size bq0_) : w.heap.size ≤ gb296)); clear HB; have HB := n0_; have BK296 := n1_; have GW296 := n2_; have GE296 := n3_; clear n0_ n1_ n2_ n3_; clear hb hbox hg; obtain ⟨hcz8_0, hcz8_1, hcz8_2, hcz8_3, hfz8_0, hfz8_1, hfz8_2, hfz8_3⟩ := bk4_ BK296.out))
      go_ret
      exact ⟨by first | rfl | (simp [errW_none, errW_some] <;> rfl) | (simp [*, errW_none, errW_some] <;> rfl), by repeat (first | (with_reducible first | exact HB.out | apply below_alloc | apply pw_below_drewN | apply below_drew1 | refine below_set ?_ GE296.out) | exact HB.out)⟩
    · rw [if_neg c6] at H
      have c6b0 : decide ((wrap64 ((wrap64 (a1 - (a0_0.size : Int))) - (a0_3.size : Int))) < 0) = false := decide_eq_false c6
      clear c6
      obtain rfl := Option.some.inj H
      go_enter Tryz.func50, Tryz.ntmps50
      go_wp2_with (first | ((with_reducible refine gate_dst (N := 2) rfl ?_); refine box_event ?hg (N := 2) ?hd (cs := #[.string a0_0, .int .i64 a0_1, .int .i64 a0_2, .string a0_3]) (t := 71) ?hr ?_; (case hd => rfl); (case hg => rfl); (case hr => first | (go_simp; done) | (go_simp; rfl)); intro gb296 hg w9 hbox hb; have n0_ := Aside0.mk (below_step bq0_ hb); have n1_ := Aside0.mk (hbox); have n2_ := Aside0.mk ((by rw [hg]; exact (below_size bq0_) : w.heap.size ≤ gb296)); have n3_ := Aside0.mk ((by rw [hg]; exact (below_size bq0_) : w.heap.size ≤ gb296)); clear HB; have HB := n0_; have BK296 := n1_; have GW296 := n2_; have GE296 := n3_; clear n0_ n1_ n2_ n3_; clear hb hbox hg; obtain ⟨hcz10_0, hcz10_1, hcz10_2, hcz10_3, hfz10_0, hfz10_1, hfz10_2, hfz10_3⟩ := bk4_ BK296.out))
      go_ret
      exact ⟨by first | rfl | (simp [errW_none, errW_some] <;> rfl) | (simp [*, errW_none, errW_some] <;> rfl), by repeat (first | (with_reducible first | exact HB.out | apply below_alloc | apply pw_below_drewN | apply below_drew1 | refine below_set ?_ GE296.out) | exact HB.out)⟩

end Go.Proofs.YtkpkfallgjdkmaaGreatDoor.P

-- PureRec
/- GoodRecord: the reference and the program return the same; good data is short. Conditions: the texts' sizes. -/
namespace Go.Proofs.YtkpkfallgjdkmaaGreatDoor.Pure
open Go.RowKit Go.Proofs.YtkpkfallgjdkmaaGreatDoor.P Go.Proofs.YtkpkfallgjdkmaaGreatDoorW.PrintWords Go.Proofs.YtkpkfallgjdkmaaGreatDoorW.PrintLast Go.Proofs.YtkpkfallgjdkmaaGreatDoorW.PrintMore
set_option linter.unusedVariables false
set_option linter.unusedSimpArgs false
theorem a_small : ∀ (k i : Nat) (parts : List ByteArray) (out x : ByteArray), impl_DataBytes.l0 k parts out (i : Int) = some (x, true) → (∀ y ∈ parts, y.size ≤ 1048576) → parts.length < 1099511627776 → (i < parts.length → parts.length = 4) ∧ ∀ j (h : j < parts.length), i ≤ j → parts[j].size ≤ 10
  | 0, i, parts, out, x, h, hs, hl => by simp [impl_DataBytes.l0] at h
  | k + 1, i, parts, out, x, h, hs, hl => by
    unfold impl_DataBytes.l0 at h
    by_cases c1 : (i : Int) < (parts.length : Int)
    · have hi : i < parts.length := by omega
      have hsz := hs _ (List.getElem_mem hi)
      obtain ⟨v, hn1, hn2⟩ := number_eq parts[i] 255 (by omega) (by omega) (by omega)
      rw [if_pos c1, if_pos (by omega), td_rd parts i hi, hn1, Option.bind_some] at h
      by_cases hb : (canL parts[i].data.toList && decide ((valL parts[i].data.toList : Int) ≤ 255)) = true
      · rw [if_pos hb] at h
        by_cases h4 : (parts.length : Int) = 4
        · rw [if_pos h4] at h
          obtain ⟨t, ht, h⟩ := Option.bind_eq_some_iff.mp h
          by_cases ho : out.size + t.size ≤ 9223372036854775807
          · rw [if_pos ho, w64n (by omega)] at h
            have ih := a_small k (i + 1) parts _ x h hs hl
            refine ⟨fun _ => by omega, fun j hj hij => ?_⟩
            by_cases e : j = i
            · subst e
              rw [Bool.and_eq_true] at hb
              have hc := hb.1
              unfold canL at hc
              simp only [Bool.and_eq_true, decide_eq_true_eq] at hc
              rw [size_len]
              exact hc.1.1.2
            · exact ih.2 j hj (by omega)
          · rw [if_neg ho] at h; cases h
        · rw [if_neg h4] at h
          cases (Prod.mk.inj (Option.some.inj h)).2
      · rw [if_neg hb] at h
        cases (Prod.mk.inj (Option.some.inj h)).2
    · exact ⟨fun h2 => absurd h2 (by omega), fun j hj hij => absurd hj (by omega)⟩
theorem sum_le : ∀ l : List (List UInt8), (∀ p ∈ l, p.length ≤ 10) → (l.map fun p => 1 + p.length).sum ≤ 11 * l.length
  | [], _ => Nat.le_refl _
  | x :: r, h => by
    have ih := sum_le r fun p hp => h p (List.mem_cons_of_mem _ hp)
    have hx := h x List.mem_cons_self
    rw [List.map_cons, List.sum_cons, List.length_cons]
    omega
theorem can_len {l : List UInt8} {m : Int} (h : (canL l && decide ((valL l : Int) ≤ m)) = true) : l.length ≤ 10 := by
  rw [Bool.and_eq_true] at h
  have hc := h.1
  unfold canL at hc
  simp only [Bool.and_eq_true, decide_eq_true_eq] at hc
  exact hc.1.1.2
theorem cut_sizes {s q1 q2 : ByteArray} {q3 : Bool} (hs : s.size ≤ 1048576) (h : strings_Cut.f s (⟨#[32]⟩ : ByteArray) = some (q1, q2, q3)) : q1.size + q2.size ≤ s.size ∧ s.size ≤ q1.size + q2.size + 1 := by
  unfold strings_Cut.f stringslite_Cut.f internal_stringslite_Index.f at h
  rw [if_pos (show (⟨#[32]⟩ : ByteArray).size = 1 from rfl)] at h
  simp only [Option.bind_some] at h
  rw [show List.headD (⟨#[32]⟩ : ByteArray).data.toList 0 = 32 from rfl, show (⟨#[32]⟩ : ByteArray).size = 1 from rfl] at h
  rcases place_or 32 s.data.toList with ⟨h1, _⟩ | ⟨p, r, h1, _, h3⟩
  · rw [h1, if_neg (by omega)] at h
    simp only [Option.bind_some, Option.some.injEq, Prod.mk.injEq] at h
    obtain ⟨rfl, rfl, _⟩ := h
    exact ⟨Nat.le_refl _, by show s.size ≤ s.size + 0 + 1; omega⟩
  · have hl : p.length + (r.length + 1) = s.size := by rw [size_len, h1]; simp
    rw [h3, show (((1 : Nat) : Int)) = 1 from rfl, w64n (by omega), if_pos (by omega), if_pos (by omega), if_pos (by omega), if_pos (by omega), if_pos (by omega), Int.toNat_natCast, Int.toNat_natCast] at h
    simp only [Option.bind_some, Option.some.injEq, Prod.mk.injEq] at h
    obtain ⟨rfl, rfl, _⟩ := h
    rw [ByteArray.size_extract, ByteArray.size_extract]
    omega
theorem data_small {k : Nat} {kind : Int} {s x : ByteArray} (hs : s.size ≤ 1048576) (h : impl_DataBytes.f k kind s = some (x, true)) : s.size ≤ 100 := by
  unfold impl_DataBytes.f at h
  by_cases c1 : kind = 1
  · rw [if_pos c1] at h
    have hsp : strings_Split.f s (⟨#[46]⟩ : ByteArray) = some ((splitL 46 s.data.toList).map mkB) := by
      unfold strings_Split.f
      rw [if_pos (show (⟨#[46]⟩ : ByteArray).size = 1 from rfl), if_pos (by omega)]
      rfl
    rw [hsp, Option.bind_some] at h
    have hne := splitL_ne 46 s.data.toList
    have hpl : 0 < (splitL 46 s.data.toList).length := List.length_pos_iff.2 hne
    have hlen : (splitL 46 s.data.toList).length ≤ s.size + 1 := by rw [size_len]; exact splitL_len _ _
    have hg := a_small k 0 _ _ _ h (by
      intro y hy
      obtain ⟨q, hq, rfl⟩ := List.mem_map.1 hy
      have := splitL_part 46 _ q hq
      rw [← size_len] at this
      rw [mkB_size]
      omega) (by rw [List.length_map]; omega)
    have h4 := hg.1 (by rw [List.length_map]; exact hpl)
    rw [List.length_map] at h4
    have hsum := sum_le (splitL 46 s.data.toList) (by
      intro p hp
      obtain ⟨j, hj, rfl⟩ := List.mem_iff_getElem.1 hp
      have := hg.2 j (by rw [List.length_map]; exact hj) (Nat.zero_le _)
      rw [List.getElem_map, mkB_size] at this
      exact this)
    rw [split_sum, h4, ← size_len] at hsum
    omega
  · rw [if_neg c1] at h
    by_cases c2 : kind = 2 ∨ kind = 5
    · rw [if_pos c2] at h
      unfold dataNs at h
      rw [target_impl, Option.bind_some] at h
      by_cases ht : targL s.data.toList = true
      · have := good_size (targ_good ht)
        rw [← size_len] at this
        omega
      · rw [if_neg ht] at h
        cases (Prod.mk.inj (Option.some.inj h)).2
    · rw [if_neg c2] at h
      by_cases c6 : kind = 6
      · rw [if_pos c6] at h
        unfold dataSoa at h
        obtain ⟨v, hn1, _⟩ := number_eq s 4294967295 (by omega) (by omega) (by omega)
        rw [hn1, Option.bind_some] at h
        by_cases hb : (canL s.data.toList && decide ((valL s.data.toList : Int) ≤ 4294967295)) = true
        · have := can_len hb
          rw [← size_len] at this
          omega
        · rw [if_neg hb] at h
          cases (Prod.mk.inj (Option.some.inj h)).2
      · rw [if_neg c6] at h
        by_cases c15 : kind = 15
        · rw [if_pos c15] at h
          unfold dataMx at h
          obtain ⟨⟨q1, q2, q3⟩, hc, h⟩ := Option.bind_eq_some_iff.mp h
          have hcut : q1.size + q2.size ≤ s.size ∧ s.size ≤ q1.size + q2.size + 1 := cut_sizes hs hc
          obtain ⟨v, hn1, _⟩ := number_eq q1 65535 (by omega) (by omega) (by omega)
          rw [hn1, Option.bind_some] at h
          by_cases hb : (canL q1.data.toList && decide ((valL q1.data.toList : Int) ≤ 65535)) = true
          · rw [if_pos hb, target_impl, Option.bind_some] at h
            by_cases ht : targL q2.data.toList = true
            · have h1 := good_size (targ_good ht)
              have h2 := can_len hb
              rw [← size_len] at h1 h2
              omega
            · rw [if_neg ht] at h
              cases (Prod.mk.inj (Option.some.inj h)).2
          · rw [if_neg hb] at h
            cases (Prod.mk.inj (Option.some.inj h)).2
        · rw [if_neg c15] at h
          by_cases c16 : kind = 16
          · rw [if_pos c16] at h
            unfold dataTxt at h
            by_cases h30 : (s.size : Int) > 30
            · rw [if_pos h30] at h
              cases (Prod.mk.inj (Option.some.inj h)).2
            · omega
          · rw [if_neg c16] at h
            cases (Prod.mk.inj (Option.some.inj h)).2
/-- DataBytes, from its parts. -/
theorem data_full (kind : Int) (s : ByteArray) (hs : s.size ≤ 1048576) : ∃ q, Ev (fun k => spec_l3Bytes.f k kind s) q ∧ Ev (fun k => impl_DataBytes.f k kind s) (if q.2 = true then (q.1, true) else badD) ∧ (q.2 = true → s.size ≤ 100) := by
  obtain ⟨r, ⟨K, h1⟩, h2⟩ := data_both kind s hs
  have h1 : specData K kind s = some r := h1 K (Nat.le_refl _)
  unfold specData at h1
  obtain ⟨q, hq, h1⟩ := Option.bind_eq_some_iff.mp h1
  have hQ : Ev (fun k => spec_l3Bytes.f k kind s) q := Ev.of (fun k => spec_l3Bytes.mono _ _ _) (k := K) hq
  have er : (if q.2 = true then (q.1, true) else badD) = r := by
    by_cases hq2 : q.2 = true
    · rw [if_pos hq2] at h1 ⊢
      exact Option.some.inj h1
    · rw [if_neg hq2] at h1 ⊢
      exact Option.some.inj h1
  refine ⟨q, hQ, by rw [er]; exact h2, fun hq2 => ?_⟩
  rw [if_pos hq2] at er
  obtain ⟨K2, h2⟩ := h2
  have h3 : impl_DataBytes.f K2 kind s = some r := h2 K2 (Nat.le_refl _)
  rw [← er] at h3
  exact data_small hs h3
theorem goodrec_both (a : ByteArray) (b c : Int) (d : ByteArray) (ha : a.size ≤ 1048576) (hd : d.size ≤ 1048576) : ∃ r q, Ev (fun k => spec_GoodRecord.f k a b c d) r ∧ Ev (fun k => impl_GoodRecord.f k a b c d) r ∧ Ev (fun k => spec_l3Bytes.f k b d) q ∧ Ev (fun k => impl_DataBytes.f k b d) (if q.2 = true then (q.1, true) else badD) ∧ r = (q.2 && (goodL a.data.toList && decide (0 ≤ c ∧ c ≤ 100000))) ∧ (q.2 = true → d.size ≤ 100) := by
  obtain ⟨q, q1, q2, q3⟩ := data_full b d hd
  refine ⟨q.2 && (goodL a.data.toList && decide (0 ≤ c ∧ c ≤ 100000)), q, ?_, ?_, q1, q2, rfl, q3⟩
  · refine Ev.congr (fun k => rfl) (Ev.bind q1 ?_)
    cases hq : q.2 with
    | false => exact Ev.now _
    | true =>
      refine Ev.bind (specGood_ev a (by omega)) ?_
      cases hg : goodL a.data.toList with
      | false => exact Ev.now _
      | true =>
        simp only [if_true, within_spec, Option.bind_some, Bool.true_and]
        exact Ev.now _
  · cases hg : goodL a.data.toList with
    | false =>
      rw [Bool.false_and, Bool.and_false]
      refine Ev.congr (fun k => ?_) (Ev.now _)
      unfold impl_GoodRecord.f impl_GoodName.f
      rw [hg]
      rfl
    | true =>
      by_cases hc : 0 ≤ c ∧ c ≤ 100000
      · rw [decide_eq_true hc, Bool.true_and, Bool.and_true]
        by_cases h100 : (d.size : Int) > 100
        · have hf : q.2 = false := by
            rw [Bool.eq_false_iff]
            intro h
            have := q3 h
            omega
          rw [hf]
          refine Ev.congr (fun k => ?_) (Ev.now _)
          unfold impl_GoodRecord.f impl_GoodName.f
          rw [hg, Option.bind_some, if_pos rfl, within_eq, Option.bind_some, decide_eq_true hc, if_pos rfl, if_pos h100]
        · refine Ev.congr (f := fun k => (impl_DataBytes.f k b d).bind fun bt237 => (some bt237.2)) (fun k => ?_) (Ev.bind q2 ?_)
          · unfold impl_GoodRecord.f impl_GoodName.f
            rw [hg, Option.bind_some, if_pos rfl, within_eq, Option.bind_some, decide_eq_true hc, if_pos rfl, if_neg h100]
          · cases q.2 with
            | false => exact Ev.now _
            | true => exact Ev.now _
      · rw [decide_eq_false hc, Bool.and_false, Bool.and_false]
        refine Ev.congr (fun k => ?_) (Ev.now _)
        unfold impl_GoodRecord.f impl_GoodName.f
        rw [hg, Option.bind_some, if_pos rfl, within_eq, Option.bind_some, decide_eq_false hc, if_neg (by simp)]
end Go.Proofs.YtkpkfallgjdkmaaGreatDoor.Pure
