/- FnExactSetsOf: part 22 of 28 of my texts for this claim, joined; the theorem stands in the last. Conditions: none beyond the statement's. -/
import Derived.Test.YtiegkjimpclmaaaGreatDoorMFnExactSetsOfx20
import Derived.RangeFuncBox
import Derived.RangeFuncLeaves
import Derived.Shelf.Abstract
import Derived.OwnWalkIn
import Derived.TacticsInMore
import Derived.LoopNIn
import Derived.LoopIn
namespace Go.Proofs.YtiegkjimpclmaaaGreatDoor.Pure
open Go.RowKit Go.Proofs.YtiegkjimpclmaaaGreatDoor.P Go.Proofs.YtiegkjimpclmaaaGreatDoorW.PrintWords Go.Proofs.YtiegkjimpclmaaaGreatDoorW.PrintLast Go.Proofs.YtiegkjimpclmaaaGreatDoorW.PrintMore
set_option linter.unusedVariables false
set_option linter.unusedSimpArgs false
theorem num_in (l : List UInt8) (most : Int) (h : 0 ≤ most) : decide (0 ≤ numS l ∧ numS l ≤ most) = (canL l && decide ((valL l : Int) ≤ most)) := by
 unfold numS
 by_cases hc : canL l = true
 · rw [if_pos hc, hc, Bool.true_and, decide_eq_decide]
   omega
 · rw [if_neg hc, Bool.eq_false_iff.mpr hc, Bool.false_and, decide_eq_false_iff_not]
   omega
theorem num_ok {l : List UInt8} {most : Int} (h : (canL l && decide ((valL l : Int) ≤ most)) = true) : numS l = (valL l : Int) := by
 rw [Bool.and_eq_true] at h
 unfold numS
 rw [if_pos h.1]
theorem s1 (v : Int) : (strOfNums [v]).size = 1 := by rw [strOfNums_size]; rfl
theorem a_loops (parts : List ByteArray) (hl : parts.length < 1099511627776) (hs : ∀ x ∈ parts, x.size ≤ 1048576) : ∀ (m i : Nat) (out : ByteArray), i + m = parts.length → out.size + m < 1099511627777 →
 ∃ r, Ev (fun k => spec_l3Bytes.l0 k out parts parts (parts.length : Int) (i : Int)) r ∧ ((parts.length : Int) = 4 → Ev (fun k => impl_DataBytes.l0 k parts out (i : Int)) r) ∧ (¬ (parts.length : Int) = 4 → r.2 = false) ∧ (r.2 = false → r.1 = (⟨#[]⟩ : ByteArray) ∨ ¬ (parts.length : Int) = 4)
 | 0, i, out, him, ho => by
  refine ⟨(out, (parts.length : Int) == 4), Ev.step (f := fun _ => some (out, (parts.length : Int) == 4)) (fun k => ?_) (Ev.now _), fun h4 => ?_, fun h4 => beq_eq_false_iff_ne.mpr h4, fun h4 => .inr (beq_eq_false_iff_ne.mp h4)⟩
  · show spec_l3Bytes.l0 (k + 1) out parts parts (parts.length : Int) (i : Int) = _
    conv => lhs; unfold spec_l3Bytes.l0
    rw [if_neg (by omega)]
  · rw [h4]
    refine Ev.step (f := fun _ => some (out, true)) (fun k => ?_) (Ev.now _)
    show impl_DataBytes.l0 (k + 1) parts out (i : Int) = _
    conv => lhs; unfold impl_DataBytes.l0
    rw [if_neg (by omega)]
 | m + 1, i, out, him, ho => by
  have hi : i < parts.length := by omega
  have hsz := hs _ (List.getElem_mem hi)
  obtain ⟨v, hn1, hn2⟩ := number_eq parts[i] 255 (by omega) (by omega) (by omega)
  have hin := int_ev parts[i] (by omega)
  have es : ∀ k, spec_l3Bytes.l0 (k + 1) out parts parts (parts.length : Int) (i : Int) = (spec_l1Int.f k parts[i]).bind fun t135 => ((spec_l1In.f t135 0 255).bind fun t136 => (if t136 = true then ((spec_l3Number.f k t135 1).bind fun t137 => (if out.size + t137.size ≤ 9223372036854775807 then (spec_l3Bytes.l0 k (out ++ t137) parts parts (parts.length : Int) ((i + 1 : Nat) : Int)) else (none))) else (some ((⟨#[]⟩ : ByteArray), false)))) := fun k => by
   conv => lhs; unfold spec_l3Bytes.l0
   rw [if_pos (by omega), if_pos (by omega), if_pos (by omega), td_rd parts i hi, w64n (by omega)]
  have ei : (parts.length : Int) = 4 → ∀ k, impl_DataBytes.l0 (k + 1) parts out (i : Int) = if (canL parts[i].data.toList && decide ((valL parts[i].data.toList : Int) ≤ 255)) = true then ((impl_big.f k v 1).bind fun t => (if out.size + t.size ≤ 9223372036854775807 then impl_DataBytes.l0 k parts (out ++ t) ((i + 1 : Nat) : Int) else none)) else some badD := fun h4 k => by
   conv => lhs; unfold impl_DataBytes.l0
   rw [if_pos (by omega), if_pos (by omega), td_rd parts i hi, hn1, Option.bind_some, w64n (by omega)]
   simp only [if_pos h4]
  have hdec := num_in parts[i].data.toList 255 (by omega)
  by_cases hb : (canL parts[i].data.toList && decide ((valL parts[i].data.toList : Int) ≤ 255)) = true
  · have hv := hn2 hb
    have hnv := num_ok hb
    obtain ⟨r, g1, g2, g3, g4⟩ := a_loops parts hl hs m (i + 1) (out ++ strOfNums [v % 256]) (by omega) (by rw [ByteArray.size_append, s1]; omega)
    refine ⟨r, Ev.step es (Ev.bind hin ?_), fun h4 => Ev.step (ei h4) ?_, g3, g4⟩
    · simp only [within_spec, Option.bind_some, hdec, hb, if_true]
      rw [hnv, ← hv]
      refine Ev.bind (num1 v) ?_
      simp only [if_pos (show out.size + (strOfNums [v % 256]).size ≤ 9223372036854775807 by rw [s1]; omega)]
      exact g1
    · simp only [hb, if_true]
      refine Ev.bind (big1 v) ?_
      simp only [if_pos (show out.size + (strOfNums [v % 256]).size ≤ 9223372036854775807 by rw [s1]; omega)]
      exact g2 h4
  · refine ⟨badD, Ev.step es (Ev.bind hin ?_), fun h4 => Ev.step (ei h4) ?_, fun _ => rfl, fun _ => .inl rfl⟩
    · simp only [within_spec, Option.bind_some, hdec, if_neg hb]
      exact Ev.now _
    · simp only [if_neg hb]
      exact Ev.now _
theorem txt_loop (s : ByteArray) (hs : s.size ≤ 1048576) : ∀ (m i : Nat), i + m = s.size →
 Ev (fun k => spec_l3Bytes.l1 k s (i : Int)) (if ((bytesOf s).drop i).any (fun c => decide (c < 32) || decide (c > 126)) = true then badD else (strOfNums [((s.size : Int)) % 256] ++ s, decide ((s.size : Int) ≤ 30)))
 | 0, i, him => by
  have hlen : (bytesOf s).length = s.size := bytes_len s
  rw [List.drop_of_length_le (by omega), List.any_nil, if_neg (by simp)]
  refine Ev.step (f := fun _ => some _) (fun k => ?_) (Ev.now _)
  show spec_l3Bytes.l1 (k + 1) s (i : Int) = _
  conv => lhs; unfold spec_l3Bytes.l1
  rw [if_neg (by omega), Option.bind_some, if_pos (by rw [s1]; omega)]
 | m + 1, i, him => by
  have hlen : (bytesOf s).length = s.size := bytes_len s
  have hi : i < (bytesOf s).length := by omega
  have hb : bt s (i : Int) = (bytesOf s)[i] := by
   rw [← rd_bytesOf]
   unfold rd
   rw [Int.toNat_natCast, List.getD_eq_getElem?_getD, List.getElem?_eq_getElem hi]
   rfl
  rw [List.drop_eq_getElem_cons hi, List.any_cons]
  have e0 : ∀ k, spec_l3Bytes.l1 (k + 1) s (i : Int) = (if (bytesOf s)[i] < 32 then (some ((⟨#[]⟩ : ByteArray), false)) else (if (bytesOf s)[i] > 126 then (some ((⟨#[]⟩ : ByteArray), false)) else (spec_l3Bytes.l1 k s ((i + 1 : Nat) : Int)))) := fun k => by
   conv => lhs; unfold spec_l3Bytes.l1
   rw [if_pos (by omega), if_pos (by omega), hb, w64n (by omega)]
  have ih := txt_loop s hs m (i + 1) (by omega)
  by_cases h1 : (bytesOf s)[i] < 32
  · rw [decide_eq_true h1, Bool.true_or, Bool.true_or, if_pos rfl]
    refine Ev.step e0 ?_
    simp only [if_pos h1]
    exact Ev.now _
  · by_cases h2 : (bytesOf s)[i] > 126
    · rw [decide_eq_true h2, Bool.or_true, Bool.true_or, if_pos rfl]
      refine Ev.step e0 ?_
      simp only [if_neg h1, if_pos h2]
      exact Ev.now _
    · rw [decide_eq_false h1, decide_eq_false h2, Bool.or_false, Bool.false_or]
      refine Ev.step e0 ?_
      simp only [if_neg h1, if_neg h2]
      exact ih
theorem a_bad (parts : List ByteArray) (hp : 0 < parts.length) (h4 : ¬ (parts.length : Int) = 4) (hs : ∀ x ∈ parts, x.size ≤ 1048576) : Ev (fun k => impl_DataBytes.l0 k parts (⟨#[]⟩ : ByteArray) 0) badD := by
 obtain ⟨v, hn1, _⟩ := number_eq parts[0] 255 (by have := hs _ (List.getElem_mem hp); omega) (by omega) (by omega)
 refine Ev.step (f := fun _ => some badD) (fun k => ?_) (Ev.now _)
 show impl_DataBytes.l0 (k + 1) parts (⟨#[]⟩ : ByteArray) ((0 : Nat) : Int) = _
 conv => lhs; unfold impl_DataBytes.l0
 rw [if_pos (by omega), if_pos (by omega), td_rd parts 0 hp, hn1, Option.bind_some]
 simp only [if_neg h4]
 split <;> rfl
def specData (k : Nat) (kind : Int) (s : ByteArray) : Option (ByteArray × Bool) := (spec_l3Bytes.f k kind s).bind fun bt159 => (if bt159.2 = true then (some (bt159.1, true)) else (some ((⟨#[]⟩ : ByteArray), false)))
theorem spec_done {kind : Int} {s : ByteArray} {q : ByteArray × Bool} (h : Ev (fun k => spec_l3Bytes.f k kind s) q) : Ev (fun k => specData k kind s) (if q.2 = true then (q.1, true) else badD) := by
 refine Ev.congr (fun k => rfl) (Ev.bind h ?_)
 by_cases hq : q.2 = true
 · simp only [if_pos hq]; exact Ev.now _
 · simp only [if_neg hq]; exact Ev.now _
def DataEq (kind : Int) (s : ByteArray) : Prop := ∃ r, Ev (fun k => specData k kind s) r ∧ Ev (fun k => impl_DataBytes.f k kind s) r
theorem data_one (s : ByteArray) (hs : s.size ≤ 1048576) : DataEq 1 s := by
 have hne := splitL_ne 46 s.data.toList
 have hpl : 0 < ((splitL 46 s.data.toList).map mkB).length := by rw [List.length_map]; exact List.length_pos_iff.2 hne
 have hlen : ((splitL 46 s.data.toList).map mkB).length ≤ s.size + 1 := by rw [List.length_map, size_len]; exact splitL_len _ _
 have hsz : ∀ x ∈ (splitL 46 s.data.toList).map mkB, x.size ≤ 1048576 := by
  intro x hx
  obtain ⟨q, hq, rfl⟩ := List.mem_map.1 hx
  have := splitL_part 46 _ q hq
  rw [← size_len] at this
  rw [mkB_size]
  omega
 have hsp : strings_Split.f s (⟨#[46]⟩ : ByteArray) = some ((splitL 46 s.data.toList).map mkB) := by
  unfold strings_Split.f
  rw [if_pos (show (⟨#[46]⟩ : ByteArray).size = 1 from rfl), if_pos (by omega)]
  rfl
 generalize hp : (splitL 46 s.data.toList).map mkB = parts at hpl hlen hsz hsp
 have hse := split_ev s (by omega)
 rw [hp] at hse
 obtain ⟨r, g1, g2, g3, g4⟩ := a_loops parts (by omega) hsz parts.length 0 (⟨#[]⟩ : ByteArray) (by omega) (by show 0 + _ < _; omega)
 have hspec : Ev (fun k => spec_l3Bytes.f k 1 s) r := Ev.congr (f := fun k => (spec_l1Split.f k s 46).bind fun t131 => (spec_l3Bytes.l0 k (⟨#[]⟩ : ByteArray) t131 t131 (t131.length : Int) 0)) (fun k => by unfold spec_l3Bytes.f; rw [if_pos rfl]) (Ev.bind hse g1)
 have ei : ∀ k, impl_DataBytes.f k 1 s = impl_DataBytes.l0 k parts (⟨#[]⟩ : ByteArray) 0 := fun k => by
  unfold impl_DataBytes.f
  rw [if_pos rfl, hsp, Option.bind_some]
 by_cases h4 : (parts.length : Int) = 4
 · refine ⟨r, ?_, Ev.congr ei (g2 h4)⟩
   have hd := spec_done hspec
   by_cases hr : r.2 = true
   · rw [if_pos hr] at hd
     have : (r.1, true) = r := Prod.ext rfl hr.symm
     rwa [this] at hd
   · rw [if_neg hr] at hd
     have hf := Bool.eq_false_iff.mpr hr
     have : badD = r := by
      rcases g4 hf with e | e
      · exact Prod.ext e.symm hf.symm
      · exact absurd h4 e
     rwa [this] at hd
 · refine ⟨badD, ?_, Ev.congr ei (a_bad parts hpl h4 hsz)⟩
   have hd := spec_done hspec
   rwa [g3 h4, if_neg (by simp)] at hd
theorem targ_good {l : List UInt8} (h : targL l = true) : goodL l = true := by
 unfold targL at h
 simp only [Bool.and_eq_true] at h
 exact h.2.1
theorem nb_targ (s : ByteArray) (h : targL s.data.toList = true) : ∃ r, Ev (fun k => impl_labelBytes.f k s) r ∧ Ev (fun k => spec_l2Bytes.f k s) (r ++ (⟨#[0]⟩ : ByteArray)) ∧ r.size ≤ 61 := by
 have hg := targ_good h
 obtain ⟨r, e1, e2, e3⟩ := nb_both s hg
 have := good_size hg
 rw [← size_len] at this
 exact ⟨r, e1, e2, by rw [e3]; split <;> omega⟩
theorem data_name (kind : Int) (hk : kind = 2 ∨ kind = 5) (s : ByteArray) (hs : s.size ≤ 1048576) : DataEq kind s := by
 have k1 : ¬ kind = 1 := by omega
 have hj : ∀ k, spec_l3Bytes.f k kind s = spec_l3Bytes.j1 k s kind true := fun k => by
  unfold spec_l3Bytes.f
  rw [if_neg k1]
  rcases hk with rfl | rfl
  · rw [if_pos rfl]; rfl
  · rw [if_neg (by omega)]; rfl
 have ei : ∀ k, impl_DataBytes.f k kind s = dataNs k s := fun k => by
  unfold impl_DataBytes.f
  rw [if_neg k1, if_pos hk]
 have et := target_impl s
 by_cases ht : targL s.data.toList = true
 · obtain ⟨r, e1, e2, e3⟩ := nb_targ s ht
   have hz : (r ++ (⟨#[0]⟩ : ByteArray)).size = r.size + 1 := by rw [ByteArray.size_append]; rfl
   refine ⟨(r ++ (⟨#[0]⟩ : ByteArray), true), ?_, ?_⟩
   · have : Ev (fun k => spec_l3Bytes.f k kind s) (r ++ (⟨#[0]⟩ : ByteArray), true) := by
      refine Ev.congr hj (Ev.step (f := fun k => (spec_l3Target.f k s).bind fun t138 => (if t138 = true then ((spec_l2Bytes.f k s).bind fun t139 => (some (t139, true))) else (some ((⟨#[]⟩ : ByteArray), false)))) (fun k => rfl) (Ev.bind (target_spec s hs) ?_))
      simp only [if_pos ht]
      exact Ev.bind e2 (Ev.now _)
     have hd := spec_done this
     rwa [if_pos rfl] at hd
   · refine Ev.congr ei ?_
     unfold dataNs
     simp only [et, Option.bind_some, if_pos ht]
     refine Ev.bind e1 ?_
     simp only [if_pos (show r.size + 1 ≤ 9223372036854775807 by omega)]
     exact Ev.now _
 · refine ⟨badD, ?_, ?_⟩
   · have : Ev (fun k => spec_l3Bytes.f k kind s) badD := by
      refine Ev.congr hj (Ev.step (f := fun k => (spec_l3Target.f k s).bind fun t138 => (if t138 = true then ((spec_l2Bytes.f k s).bind fun t139 => (some (t139, true))) else (some ((⟨#[]⟩ : ByteArray), false)))) (fun k => rfl) (Ev.bind (target_spec s hs) ?_))
      simp only [if_neg ht]
      exact Ev.now _
     exact spec_done this
   · refine Ev.congr ei ?_
     unfold dataNs
     simp only [et, Option.bind_some, if_neg ht]
     exact Ev.now _
theorem spec_j (kind : Int) (h1 : ¬ kind = 1) (h2 : ¬ kind = 2) (h5 : ¬ kind = 5) (s : ByteArray) (k : Nat) : spec_l3Bytes.f k kind s = spec_l3Bytes.j1 k s kind false := by
 unfold spec_l3Bytes.f
 rw [if_neg h1, if_neg h2, show (kind == 5) = false from beq_eq_false_iff_ne.mpr h5]
theorem data_serial (s : ByteArray) (hs : s.size ≤ 1048576) : DataEq 6 s := by
 obtain ⟨v, hn1, hn2⟩ := number_eq s 4294967295 (by omega) (by omega) (by omega)
 have hin := int_ev s (by omega)
 have hdec := num_in s.data.toList 4294967295 (by omega)
 have ei : ∀ k, impl_DataBytes.f k 6 s = dataSoa k s := fun k => by
  unfold impl_DataBytes.f
  rw [if_neg (by omega), if_neg (by omega), if_pos rfl]
 have hspec : Ev (fun k => spec_l3Bytes.f k 6 s) (strOfNums [numS s.data.toList / 16777216 % 256, numS s.data.toList / 65536 % 256, numS s.data.toList / 256 % 256, numS s.data.toList % 256], canL s.data.toList && decide ((valL s.data.toList : Int) ≤ 4294967295)) := by
  refine Ev.congr (fun k => spec_j 6 (by omega) (by omega) (by omega) s k) (Ev.step (f := fun k => (spec_l1Int.f k s).bind fun t140 => ((spec_l3Number.f k t140 4).bind fun t141 => ((spec_l1In.f t140 0 4294967295).bind fun t142 => (some (t141, t142))))) (fun k => rfl) (Ev.bind hin (Ev.bind (num4 _) ?_)))
  simp only [within_spec, Option.bind_some, hdec]
  exact Ev.now _
 have hd := spec_done hspec
 by_cases hb : (canL s.data.toList && decide ((valL s.data.toList : Int) ≤ 4294967295)) = true
 · have hv := hn2 hb
   have hnv := num_ok hb
   rw [if_pos hb, hnv, ← hv] at hd
   refine ⟨_, hd, Ev.congr ei ?_⟩
   unfold dataSoa
   simp only [hn1, Option.bind_some, if_pos hb]
   exact Ev.bind (big4 v) (Ev.now _)
 · rw [if_neg hb] at hd
   refine ⟨_, hd, Ev.congr ei ?_⟩
   unfold dataSoa
   simp only [hn1, Option.bind_some, if_neg hb]
   exact Ev.now _
theorem data_text (s : ByteArray) (hs : s.size ≤ 1048576) : DataEq 16 s := by
 have ei : ∀ k, impl_DataBytes.f k 16 s = dataTxt k s := fun k => by
  unfold impl_DataBytes.f
  rw [if_neg (by omega), if_neg (by omega), if_neg (by omega), if_neg (by omega), if_pos rfl]
 have hspec : Ev (fun k => spec_l3Bytes.f k 16 s) (if (bytesOf s).any (fun c => decide (c < 32) || decide (c > 126)) = true then badD else (strOfNums [((s.size : Int)) % 256] ++ s, decide ((s.size : Int) ≤ 30))) :=
  Ev.congr (fun k => spec_j 16 (by omega) (by omega) (by omega) s k) (Ev.step (f := fun k => spec_l3Bytes.l1 k s 0) (fun k => rfl) (txt_loop s hs s.size 0 (by omega)))
 have hd := spec_done hspec
 by_cases hb : (bytesOf s).any (fun c => decide (c < 32) || decide (c > 126)) = true
 · rw [if_pos hb] at hd
   refine ⟨_, hd, Ev.congr ei ?_⟩
   unfold dataTxt
   by_cases h30 : (s.size : Int) > 30
   · simp only [if_pos h30]; exact Ev.now _
   · simp only [if_neg h30, if_pos hb]; exact Ev.now _
 · rw [if_neg hb] at hd
   by_cases h30 : (s.size : Int) > 30
   · rw [decide_eq_false (show ¬ (s.size : Int) ≤ 30 by omega), if_neg (by simp)] at hd
     refine ⟨_, hd, Ev.congr ei ?_⟩
     unfold dataTxt
     simp only [if_pos h30]; exact Ev.now _
   · rw [decide_eq_true (show (s.size : Int) ≤ 30 by omega), if_pos rfl] at hd
     refine ⟨_, hd, Ev.congr ei ?_⟩
     unfold dataTxt
     simp only [if_neg h30, if_neg hb]
     refine Ev.bind (big1 _) ?_
     simp only [if_pos (show (strOfNums [(s.size : Int) % 256]).size + s.size ≤ 9223372036854775807 by rw [s1]; omega)]
     exact Ev.now _
theorem space_bad {r : List UInt8} (h : 32 ∈ r) : targL r = false := by
 rw [Bool.eq_false_iff]
 intro ht
 have hg := good_all (targ_good ht)
 have hne : r ≠ [] := by rintro rfl; cases h
 obtain ⟨p, hp, hb⟩ := (split_mem r 32 (by decide)).1 h
 have := hg.2 p (by unfold labelsL; rw [if_neg hne]; exact hp)
 unfold isLabelL at this
 rw [Bool.or_eq_true, beq_iff_eq, Bool.and_eq_true, List.all_eq_true] at this
 rcases this with e | e
 · rw [e] at hb; simp at hb
 · exact absurd (e.2 32 hb) (by decide)
theorem data_mail (s : ByteArray) (hs : s.size ≤ 1048576) : DataEq 15 s := by
 have ei : ∀ k, impl_DataBytes.f k 15 s = dataMx k s := fun k => by
  unfold impl_DataBytes.f
  rw [if_neg (by omega), if_neg (by omega), if_neg (by omega), if_pos rfl]
 have hse := split32_ev s (by omega)
 have hj : ∀ {q : ByteArray × Bool}, Ev (fun k => (spec_l1Split.f k s 32).bind fun t143 => (if (t143.length : Int) = 2 then (if 0 < (t143.length : Int) then ((spec_l1Int.f k (rdOf ByteArray.empty t143 0)).bind fun t147 => ((spec_l1In.f t147 0 65535).bind fun t148 => (if t148 = true then (if 1 < (t143.length : Int) then ((spec_l3Target.f k (rdOf ByteArray.empty t143 1)).bind fun t150 => (spec_l3Bytes.j2 k t143 (!t150))) else (none)) else (spec_l3Bytes.j2 k t143 true)))) else (none)) else (spec_l3Bytes.j2 k t143 true))) q → Ev (fun k => spec_l3Bytes.f k 15 s) q := fun h =>
  Ev.congr (fun k => spec_j 15 (by omega) (by omega) (by omega) s k) (Ev.step (fun k => rfl) h)
 have jbad : ∀ l, Ev (fun k => spec_l3Bytes.j2 k l true) badD := fun l => Ev.step (f := fun _ => some badD) (fun k => rfl) (Ev.now _)
 have hcutI : ∀ p r, s.data.toList = p ++ 32 :: r → (∀ x ∈ p, x ≠ 32) → strings_Cut.f s (⟨#[32]⟩ : ByteArray) = some (mkB p, mkB r, true) := by
  intro p r h1 h2
  have hix : Lib.indexByte s.data.toList 32 = (p.length : Int) := by
   rcases place_or 32 s.data.toList with ⟨_, g2⟩ | ⟨p', r', g1, g2, g3⟩
   · exact absurd rfl (g2 32 (by rw [h1]; simp))
   · have e : p' :: splitL 32 r' = p :: splitL 32 r := by rw [← splitL_hit 32 p' r' g2, ← g1, h1, splitL_hit 32 p r h2]
     rw [g3, (List.cons.inj e).1]
  have hl : p.length + (r.length + 1) = s.size := by rw [size_len, h1]; simp
  unfold strings_Cut.f stringslite_Cut.f internal_stringslite_Index.f
  rw [if_pos (show (⟨#[32]⟩ : ByteArray).size = 1 from rfl)]
  simp only [Option.bind_some]
  rw [show List.headD (⟨#[32]⟩ : ByteArray).data.toList 0 = 32 from rfl, show (⟨#[32]⟩ : ByteArray).size = 1 from rfl, hix, show (((1 : Nat) : Int)) = 1 from rfl, w64n (by omega), if_pos (by omega), if_pos (by omega), if_pos (by omega), if_pos (by omega), if_pos (by omega), Int.toNat_natCast, Int.toNat_natCast, ext_mkB, ext_end]
  have e1 : (s.data.toList.drop 0).take (p.length - 0) = p := by rw [h1]; simp
  have e2 : s.data.toList.drop (p.length + 1) = r := by
   rw [h1, show p ++ 32 :: r = (p ++ [32]) ++ r by simp, List.drop_append_of_le_length (by simp), List.drop_of_length_le (by simp), List.nil_append]
  rw [e1, e2]
  rfl
 rcases place_or 32 s.data.toList with ⟨h1, h2⟩ | ⟨p, r, h1, h2, h3⟩
 · -- no space
   refine ⟨badD, ?_, Ev.congr ei ?_⟩
   · refine spec_done (q := badD) (hj (Ev.bind hse ?_))
     rw [splitL_none _ _ h2]
     simp only [List.map_cons, List.map_nil, List.length_cons, List.length_nil]
     exact jbad _
   · have hcut : strings_Cut.f s (⟨#[32]⟩ : ByteArray) = some (s, (⟨#[]⟩ : ByteArray), false) := by
      unfold strings_Cut.f stringslite_Cut.f internal_stringslite_Index.f
      rw [if_pos (show (⟨#[32]⟩ : ByteArray).size = 1 from rfl)]
      simp only [Option.bind_some]
      rw [show List.headD (⟨#[32]⟩ : ByteArray).data.toList 0 = 32 from rfl, h1, if_neg (by omega)]
      rfl
     obtain ⟨v, hn1, _⟩ := number_eq s 65535 (by omega) (by omega) (by omega)
     unfold dataMx
     simp only [hcut, Option.bind_some, hn1, target_impl]
     have : targL (⟨#[]⟩ : ByteArray).data.toList = false := rfl
     rw [this]
     refine Ev.congr (f := fun _ => some badD) (fun k => ?_) (Ev.now _)
     split <;> rfl
 · have hcut := hcutI p r h1 h2
   have hsl : splitL 32 s.data.toList = p :: splitL 32 r := by rw [h1]; exact splitL_hit 32 p r h2
   have hsz : p.length + r.length + 1 = s.size := by rw [size_len, h1]; simp; omega
   obtain ⟨v, hn1, hn2⟩ := number_eq (mkB p) 65535 (by rw [mkB_size]; omega) (by omega) (by omega)
   rw [mkB_data] at hn1 hn2
   have hei : ∀ k, dataMx k s = (if (canL p && decide ((valL p : Int) ≤ 65535)) = true then (if targL r = true then ((impl_big.f k v 2).bind fun g => ((impl_labelBytes.f k (mkB r)).bind fun lb => (if g.size + lb.size ≤ 9223372036854775807 then (if g.size + lb.size + 1 ≤ 9223372036854775807 then some ((g ++ lb) ++ (⟨#[0]⟩ : ByteArray), true) else none) else none))) else some badD) else some badD) := fun k => by
    unfold dataMx
    simp only [hcut, Option.bind_some, hn1, target_impl, mkB_data]
   have hdec := num_in p 65535 (by omega)
   have hin := int_ev (mkB p) (by rw [mkB_size]; omega)
   rw [mkB_data] at hin
   rcases place_or 32 r with ⟨_, r2⟩ | ⟨p', r', r1, _, _⟩
   · -- two parts
     rw [hsl, splitL_none _ _ r2] at hse
     simp only [List.map_cons, List.map_nil] at hse
     have htg := target_spec (mkB r) (by rw [mkB_size]; omega)
     rw [mkB_data] at htg
     by_cases hb : (canL p && decide ((valL p : Int) ≤ 65535)) = true
     · by_cases ht : targL r = true
       · have hv := hn2 hb
         have hnv := num_ok hb
         obtain ⟨lb, e1, e2, e3⟩ := nb_targ (mkB r) (by rw [mkB_data]; exact ht)
         have g2s : (strOfNums [v / 256 % 256, v % 256]).size = 2 := by rw [strOfNums_size]; rfl
         refine ⟨((strOfNums [v / 256 % 256, v % 256] ++ lb) ++ (⟨#[0]⟩ : ByteArray), true), ?_, Ev.congr ei (Ev.congr hei ?_)⟩
         · have : Ev (fun k => spec_l3Bytes.f k 15 s) ((strOfNums [v / 256 % 256, v % 256] ++ lb) ++ (⟨#[0]⟩ : ByteArray), true) := by
            refine hj (Ev.bind hse ?_)
            simp only [List.length_cons, List.length_nil, show ((0 + 1 + 1 : Nat) : Int) = 2 from rfl, if_true, if_pos (show (0 : Int) < 2 by omega), if_pos (show (1 : Int) < 2 by omega)]
            refine Ev.bind (a := numS p) hin ?_
            simp only [within_spec, Option.bind_some, hdec, hb, if_true]
            refine Ev.bind (a := true) (by rw [← ht]; exact htg) ?_
            refine Ev.step (f := fun k => (spec_l1Int.f k (mkB p)).bind fun t152 => ((spec_l3Number.f k t152 2).bind fun t153 => ((spec_l2Bytes.f k (mkB r)).bind fun t155 => (if t153.size + t155.size ≤ 9223372036854775807 then (some (t153 ++ t155, true)) else (none))))) (fun k => rfl) (Ev.bind hin ?_)
            rw [hnv, ← hv]
            refine Ev.bind (num2 v) (Ev.bind e2 ?_)
            rw [← ByteArray.append_assoc]
            simp only [if_pos (show (strOfNums [v / 256 % 256, v % 256]).size + (lb ++ (⟨#[0]⟩ : ByteArray)).size ≤ 9223372036854775807 by rw [g2s, ByteArray.size_append]; show 2 + (lb.size + 1) ≤ _; omega)]
            exact Ev.now _
           have hd := spec_done this
           rwa [if_pos rfl] at hd
         · simp only [hb, ht, if_true]
           refine Ev.bind (big2 v) (Ev.bind e1 ?_)
           simp only [g2s, if_pos (show 2 + lb.size ≤ 9223372036854775807 by omega), if_pos (show 2 + lb.size + 1 ≤ 9223372036854775807 by omega)]
           exact Ev.now _
       · refine ⟨badD, ?_, Ev.congr ei (Ev.congr hei ?_)⟩
         · refine spec_done (q := badD) (hj (Ev.bind hse ?_))
           simp only [List.length_cons, List.length_nil, show ((0 + 1 + 1 : Nat) : Int) = 2 from rfl, if_true, if_pos (show (0 : Int) < 2 by omega), if_pos (show (1 : Int) < 2 by omega)]
           refine Ev.bind (a := numS p) hin ?_
           simp only [within_spec, Option.bind_some, hdec, hb, if_true]
           refine Ev.bind (a := false) (by rw [← Bool.eq_false_iff.mpr ht]; exact htg) ?_
           exact jbad _
         · simp only [hb, if_neg ht, if_true]
           exact Ev.now _
     · refine ⟨badD, ?_, Ev.congr ei (Ev.congr hei ?_)⟩
       · refine spec_done (q := badD) (hj (Ev.bind hse ?_))
         simp only [List.length_cons, List.length_nil, show ((0 + 1 + 1 : Nat) : Int) = 2 from rfl, if_true, if_pos (show (0 : Int) < 2 by omega), if_pos (show (1 : Int) < 2 by omega)]
         refine Ev.bind (a := numS p) hin ?_
         simp only [within_spec, Option.bind_some, hdec, if_neg hb]
         exact jbad _
       · simp only [if_neg hb]
         exact Ev.now _
   · -- more parts
     have htf := space_bad (r := r) (by rw [r1]; simp)
     refine ⟨badD, ?_, Ev.congr ei (Ev.congr hei ?_)⟩
     · refine spec_done (q := badD) (hj (Ev.bind hse ?_))
       have hl : ¬ (((splitL 32 s.data.toList).map mkB).length : Int) = 2 := by
        rw [List.length_map, hsl, r1, splitL_hit 32 p' r' (by assumption)]
        have := List.length_pos_iff.2 (splitL_ne 32 r')
        simp only [List.length_cons]
        omega
       simp only [if_neg hl]
       exact jbad _
     · simp only [htf, Bool.false_eq_true, if_false]
       refine Ev.congr (f := fun _ => some badD) (fun k => ?_) (Ev.now _)
       split <;> rfl
theorem data_both (kind : Int) (s : ByteArray) (hs : s.size ≤ 1048576) : DataEq kind s := by
 by_cases c1 : kind = 1
 · subst c1; exact data_one s hs
 · by_cases c2 : kind = 2 ∨ kind = 5
   · exact data_name kind c2 s hs
   · by_cases c6 : kind = 6
     · subst c6; exact data_serial s hs
     · by_cases c15 : kind = 15
       · subst c15; exact data_mail s hs
       · by_cases c16 : kind = 16
         · subst c16; exact data_text s hs
         · refine ⟨badD, ?_, Ev.congr (f := fun _ => some badD) (fun k => ?_) (Ev.now _)⟩
           · refine spec_done (q := badD) (Ev.congr (fun k => spec_j kind c1 (fun e => c2 (.inl e)) (fun e => c2 (.inr e)) s k) (Ev.step (f := fun _ => some badD) (fun k => ?_) (Ev.now _)))
             show spec_l3Bytes.j1 (k + 1) s kind false = some badD
             simp [spec_l3Bytes.j1, c6, c15, c16, badD]
           · unfold impl_DataBytes.f
             rw [if_neg c1, if_neg c2, if_neg c6, if_neg c15, if_neg c16]
end Go.Proofs.YtiegkjimpclmaaaGreatDoor.Pure
namespace Go.Proofs.YtiegkjimpclmaaaGreatDoor.Pure
open Go.RowKit Go.Proofs.YtiegkjimpclmaaaGreatDoor.P Go.Proofs.YtiegkjimpclmaaaGreatDoorW.PrintWords Go.Proofs.YtiegkjimpclmaaaGreatDoorW.PrintLast
set_option linter.unusedVariables false
set_option linter.unusedSimpArgs false
set_option linter.unusedSectionVars false
theorem bt_mkB (x : List UInt8) (i : Nat) (h : i < x.length) : bt (mkB x) (i : Int) = ((x[i]).toNat : Int) := by
 rw [bt_list _ i (by rw [mkB_data]; exact h)]
 have : ∀ (l : List UInt8) (hl : l = x) (h1 : i < l.length), l[i] = x[i] := by rintro l rfl h1; rfl
 rw [this _ (mkB_data x)]
def failI : ByteArray × List Int × Int × Bool := ((⟨#[]⟩ : ByteArray), ([] : List Int), 0, false)
def failS : ByteArray × Int × List Int × Bool := ((⟨#[]⟩ : ByteArray), 0, ([] : List Int), false)
def byteAt (s : ByteArray) (a : Nat) : Nat := (bt s (a : Int)).toNat
theorem byteAt_bt (s : ByteArray) (a : Nat) : bt s (a : Int) = (byteAt s a : Int) := by
 have := bt_range s (a : Int)
 unfold byteAt
 omega
theorem byteAt_lt (s : ByteArray) (a : Nat) : byteAt s a ≤ 255 := by
 have := bt_range s (a : Int)
 unfold byteAt
 omega
theorem wN (n : Nat) (h : n < 4611686018427387904) : wrap64 (n : Int) = (n : Int) := by unfold wrap64; omega
def endOf (e : Int) (x : Nat) : Int := if e < 0 then (x : Int) else e
def plc (e : Int) (l : List Int) (a : Nat) : List Int := if e < 0 then l ++ [(a : Int)] else l
def ptrOf (s : ByteArray) (a : Nat) : Nat := (byteAt s a - 192) * 256 + byteAt s (a + 1)
section
variable (s : ByteArray) (hs : s.size ≤ 600)
include hs
theorem impl_out (k a : Nat) (L : List ByteArray) (p : List Int) (le e : Int) (h : s.size ≤ a ∨ 8 < L.length) : impl_takeName.l0 (k + 2) s (a : Int) L p le e = some failI := by
 have hj : impl_takeName.l0 (k + 2) s (a : Int) L p le e = impl_takeName.j1 (k + 1) s (a : Int) L p le e false := by
  conv => lhs; unfold impl_takeName.l0
  by_cases h1 : (a : Int) < (s.size : Int)
  · rw [if_pos h1, decide_eq_false (by omega)]
  · rw [if_neg h1]
 rw [hj]
 unfold impl_takeName.j1
 rw [if_neg (by simp)]
 rfl
theorem impl_in (k a : Nat) (L : List ByteArray) (p : List Int) (le e : Int) (h1 : a < s.size) (h2 : L.length ≤ 8) : impl_takeName.l0 (k + 2) s (a : Int) L p le e = impl_takeName.j1 (k + 1) s (a : Int) L p le e true := by
 conv => lhs; unfold impl_takeName.l0
 rw [if_pos (by omega), decide_eq_true (by omega)]
theorem impl_end (k a : Nat) (L : List ByteArray) (p : List Int) (le e : Int) (h1 : a < s.size) (h2 : L.length ≤ 8) (hv : byteAt s a = 0) :
 impl_takeName.l0 (k + 2) s (a : Int) L p le e = some ((nameR L).1, p, endOf e (a + 1), (nameR L).2) := by
 rw [impl_in s hs k a L p le e h1 h2]
 unfold impl_takeName.j1 endOf impl_NameOf.f
 rw [if_pos rfl, if_pos (by omega), if_pos (by omega), byteAt_bt, wN _ (by have := byteAt_lt s a; omega), hv, if_pos (by rfl), w64n (by omega)]
 by_cases he : e < 0
 · rw [if_pos he, if_pos he]; rfl
 · rw [if_neg he, if_neg he]; rfl
theorem impl_ptr_out (k a : Nat) (L : List ByteArray) (p : List Int) (le e : Int) (h1 : a < s.size) (h2 : L.length ≤ 8) (hv : 192 ≤ byteAt s a) (h3 : s.size ≤ a + 1) :
 impl_takeName.l0 (k + 2) s (a : Int) L p le e = some failI := by
 rw [impl_in s hs k a L p le e h1 h2]
 unfold impl_takeName.j1
 rw [if_pos rfl, if_pos (by omega), if_pos (by omega), byteAt_bt, wN _ (by have := byteAt_lt s a; omega), if_neg (by omega), if_pos (by omega), w64n (by omega), if_pos (by omega)]
 rfl
theorem impl_ptr (k a : Nat) (L : List ByteArray) (p : List Int) (le e : Int) (h1 : a < s.size) (h2 : L.length ≤ 8) (hv : 192 ≤ byteAt s a) (h3 : a + 1 < s.size) :
 impl_takeName.l0 (k + 2) s (a : Int) L p le e = if ((ptrOf s a : Nat) : Int) ≥ le then some failI else impl_takeName.l0 k s ((ptrOf s a : Nat) : Int) L p ((ptrOf s a : Nat) : Int) (endOf e (a + 2)) := by
 rw [impl_in s hs k a L p le e h1 h2]
 have b1 := byteAt_lt s a
 have b2 := byteAt_lt s (a + 1)
 have hw2 : wrap64 ((a : Int) + 2) = ((a + 2 : Nat) : Int) := by unfold wrap64; omega
 have hp : wrap64 ((wrap64 ((Int.tmod (byteAt s a : Int) 64) * 256)) + (byteAt s (a + 1) : Int)) = ((ptrOf s a : Nat) : Int) := by
  unfold ptrOf
  rw [Int.tmod_eq_emod_of_nonneg (by omega)]
  unfold wrap64
  omega
 conv => lhs; unfold impl_takeName.j1
 rw [if_pos rfl, if_pos (by omega), if_pos (by omega), byteAt_bt, wN _ (by omega), if_neg (by omega), if_pos (by omega), w64n (by omega), if_neg (by omega), byteAt_bt, wN (byteAt s (a + 1)) (by omega), hp, hw2]
 unfold endOf
 by_cases he : e < 0
 · rw [if_pos he, if_pos he, if_pos (by omega), if_pos (by omega)]; rfl
 · rw [if_neg he, if_neg he, if_pos (by omega), if_pos (by omega)]; rfl
theorem impl_lab_out (k a : Nat) (L : List ByteArray) (p : List Int) (le e : Int) (h1 : a < s.size) (h2 : L.length ≤ 8) (hv : 0 < byteAt s a) (hv2 : byteAt s a < 192) (h3 : 64 ≤ byteAt s a ∨ s.size < a + 1 + byteAt s a) :
 impl_takeName.l0 (k + 3) s (a : Int) L p le e = some failI := by
 rw [impl_in s hs (k + 1) a L p le e h1 h2]
 have b1 := byteAt_lt s a
 have hw2 : wrap64 (((a + 1 : Nat) : Int) + (byteAt s a : Int)) = ((a + 1 + byteAt s a : Nat) : Int) := by unfold wrap64; omega
 have hj : impl_takeName.j1 (k + 2) s (a : Int) L p le e true = impl_takeName.j2 (k + 1) s (a : Int) L p le e (byteAt s a : Int) true := by
  conv => lhs; unfold impl_takeName.j1
  rw [if_pos rfl, if_pos (by omega), if_pos (by omega), byteAt_bt, wN _ (by omega), if_neg (by omega), if_neg (by omega)]
  by_cases h64 : (byteAt s a : Int) ≥ 64
  · rw [if_pos h64]
  · rw [if_neg h64, w64n (by omega), hw2, decide_eq_true (by omega)]
 rw [hj]
 unfold impl_takeName.j2
 rw [if_pos rfl]
 rfl
theorem impl_lab (k a : Nat) (L : List ByteArray) (p : List Int) (le e : Int) (h1 : a < s.size) (h2 : L.length ≤ 8) (hp : p.length < 17592186044416) (hv : 0 < byteAt s a) (hv2 : byteAt s a < 64) (h3 : a + 1 + byteAt s a ≤ s.size) :
 impl_takeName.l0 (k + 3) s (a : Int) L p le e = impl_takeName.l0 k s ((a + 1 + byteAt s a : Nat) : Int) (L ++ [mkB (((s.data.toList.drop (a + 1)).take (byteAt s a)).map lowB)]) (plc e p a) le e := by
 rw [impl_in s hs (k + 1) a L p le e h1 h2]
 have hw2 : wrap64 (((a + 1 : Nat) : Int) + (byteAt s a : Int)) = ((a + 1 + byteAt s a : Nat) : Int) := by unfold wrap64; omega
 have hw3 : wrap64 ((a : Int) + (wrap64 (1 + (byteAt s a : Int)))) = ((a + 1 + byteAt s a : Nat) : Int) := by unfold wrap64; omega
 have hj : impl_takeName.j1 (k + 2) s (a : Int) L p le e true = impl_takeName.j2 (k + 1) s (a : Int) L p le e (byteAt s a : Int) false := by
  conv => lhs; unfold impl_takeName.j1
  rw [if_pos rfl, if_pos (by omega), if_pos (by omega), byteAt_bt, wN _ (by omega), if_neg (by omega), if_neg (by omega), if_neg (by omega), w64n (by omega), hw2, decide_eq_false (by omega)]
 rw [hj]
 have hsm : impl_small.f (s.extract (a + 1) (a + 1 + byteAt s a)) = some (mkB (((s.data.toList.drop (a + 1)).take (byteAt s a)).map lowB)) := by
  unfold impl_small.f
  rw [if_pos (by rw [ext_mkB, mkB_size, List.length_take]; omega), ext_mkB, mkB_data, show a + 1 + byteAt s a - (a + 1) = byteAt s a by omega]
 conv => lhs; unfold impl_takeName.j2
 unfold plc
 rw [if_neg (by simp), w64n (by omega), hw2, hw3, Int.toNat_natCast, Int.toNat_natCast, hsm]
 simp only [Option.bind_some]
 by_cases he : e < 0
 · rw [if_pos he, if_pos he, if_pos hp, if_pos (by omega), if_pos (by omega), if_pos (by omega), if_pos (by omega)]
 · rw [if_neg he, if_neg he, if_pos (by omega), if_pos (by omega), if_pos (by omega), if_pos (by omega)]
def rawL (s : ByteArray) (a : Nat) : List UInt8 := (s.data.toList.drop (a + 1)).take (byteAt s a)
end
end Go.Proofs.YtiegkjimpclmaaaGreatDoor.Pure
namespace Go.Proofs.YtiegkjimpclmaaaGreatDoor.P
open Go.RowKit Go.Proofs.YtiegkjimpclmaaaGreatDoorW.PrintWords Go.Proofs.YtiegkjimpclmaaaGreatDoorW.PrintLast Go.Proofs.YtiegkjimpclmaaaGreatDoorW.PrintMore
attribute [local go_sem] max2_int min2_int max_two min_two max_three min_three max_four min_four
set_option linter.unusedVariables false
set_option linter.unusedSimpArgs false
def impl_nameIn.f (k : Nat) (a0 : ByteArray) : Option (ByteArray) := (impl_takeName.f k a0 0).bind fun bt276 => (some bt276.1)
theorem impl_nameIn.mono : ∀ a0 k, LeO (impl_nameIn.f k a0) (impl_nameIn.f (k + 1) a0) := by
 intro a0 k
 unfold impl_nameIn.f
 repeat' first
  | (with_reducible exact impl_takeName.mono _ _ _)
  | (with_reducible exact LeO.refl _)
  | (with_reducible exact LeO.none _)
  | (with_reducible refine LeO.ite ?_ ?_)
  | (with_reducible refine LeO.bind ?_ (fun _ => ?_))
  | exact impl_takeName.mono _ _ _
  | exact LeO.none _
  | refine LeO.ite ?_ ?_
  | refine LeO.bind ?_ (fun _ => ?_)
def spec_l3Name.f (k : Nat) (a0 : ByteArray) : Option (ByteArray) := if (a0.size : Int) = 0 then (some (⟨#[]⟩ : ByteArray)) else ((spec_l2Take.f k a0 0).bind fun bt137 => (if bt137.2.2.2 = true then (if bt137.2.1 = (a0.size : Int) then (some bt137.1) else (some (⟨#[]⟩ : ByteArray))) else (some (⟨#[]⟩ : ByteArray))))
end Go.Proofs.YtiegkjimpclmaaaGreatDoor.P
namespace Go.Proofs.YtiegkjimpclmaaaGreatDoor.P
open Go.RowKit Go.Shelf Go.Proofs.YtiegkjimpclmaaaGreatDoorW.PrintWords Go.Proofs.YtiegkjimpclmaaaGreatDoorW.PrintLast Go.Proofs.YtiegkjimpclmaaaGreatDoorW.PrintMore
set_option linter.unusedVariables false
set_option linter.unusedSimpArgs false
attribute [local go_sem] Oper.semAt_some
abbrev IR := S45
theorem sq_size {a b c d : World} (h : a.heap.size ≤ b.heap.size) (o : Obj) (k : (b.alloc o).heap.size ≤ c.heap.size) : a.heap.size ≤ c.heap.size := by
  rw [World.size_alloc] at k; omega
set_option maxRecDepth 100000 in
set_option maxHeartbeats 2000000 in
theorem seq1_in (F : Fence) (n : Nat) (h7 : F.fn 139) (hro : F.round = none) (hn : 1 ≤ n) (l Bs : Nat) (w0 : World) (A : Option Addr) (cap : Nat) (xs : List IR) (hrow : Kd.C k45 w0 A xs.length xs) (hmax : xs.length ≤ 1048576) (J Jx : List IR → World → Prop)
    (hY : ∀ pre x W, J pre W → pre.length < xs.length → YieldAt F (n - 1) Tryz.prog l #[encR x] W fun e W' =>
      (e = .returned (.bool true) ∧ J (pre ++ [x]) W' ∧ Below w0.heap.size W W') ∨ (e = .returned (.bool false) ∧ Jx (pre ++ [x]) W'))
    (W : World) (hJ : AbidesFrom W.heap.size J) (hB : Below w0.heap.size w0 W) (hBs : W.cell? ⟨Bs, 0, none⟩ = some (.slice A xs.length cap)) (h0 : J [] W) :
    CallsIn F n Tryz.prog 139 #[.func (.yield l) #[] #[], .pointer (some ⟨Bs, 0, none⟩)] W fun e W' => (∃ v, e = .returned v) ∧
      ((∃ ys, ys = xs ∧ J ys W') ∨ (∃ pre, pre <+: xs ∧ Jx pre W')) := by
  have HG := Aside0.mk hmax
  have hreach : xs.length * 8 ≤ 140737488351232 := by omega
  clear hmax
  refine callsIn_of_wp Tryz.func139 rfl h7 ?_ hro
  simp only [Tryz.ntmps139, List.size_toArray, List.length_cons, List.length_nil, Nat.reduceAdd, Nat.reduceSub, Array.replicate_succ, Array.replicate_zero, List.push_toArray, List.append_toArray, List.nil_append, List.cons_append]
  gi_wp2
  gi_loopw [7] (fun i wr => ∃ kk : Nat, kk ≤ xs.length ∧ i = .int .i64 kk ∧ J (xs.take kk) wr ∧ Below w0.heap.size w0 wr ∧ W.heap.size ≤ wr.heap.size)
    (fun i _ => xs.length - (intOf i).toNat)
  case atStart => exact ⟨0, Nat.zero_le _, rfl, h0, hB, Nat.le_refl _⟩
  case round =>
    obtain ⟨kk, hkk, rfl, hJs, hnx, hsz⟩ := hrel
    by_cases hlt : kk < xs.length
    · have hltz : (kk : Int) < (xs.length : Int) := by omega
      obtain ⟨ad, e0, hx0, hx1, hx2, hx3⟩ := at_T45 hrow (kk : Int) (by omega) hltz
      cases e0
      have l0 := (hnx.cell (World.block_lt_of_cell? _ _ hx0)).trans hx0
      have l1 := (hnx.cell (World.block_lt_of_cell? _ _ hx1)).trans hx1
      have l2 := (hnx.cell (World.block_lt_of_cell? _ _ hx2)).trans hx2
      have l3 := (hnx.cell (World.block_lt_of_cell? _ _ hx3)).trans hx3
      clear hx0 hx1 hx2 hx3
      simp only [Int.toNat_natCast] at l0 l1 l2 l3
      generalize hy : rd_T45 xs kk = y at l0 l1 l2 l3
      have hty : xs.take (kk + 1) = xs.take kk ++ [y] := by
        rw [List.take_succ_eq_append_getElem hlt, ← hy]
        simp [rd_T45, List.getElem?_eq_getElem hlt]
      have HT := Aside0.mk hty
      clear hty hy
      obtain ⟨fn, tmps, assign, body, hy', hR⟩ := hY (xs.take kk) y (wr.alloc (.cells #[.string y.f0, .int .i64 y.f1, .int .i64 y.f2, .string y.f3] 45)) (hJ _ _ _ none hJs (World.grownBy_alloc wr _ none) (fun r e => by cases e)) (by rw [List.length_take]; omega)
      unfold encR at hy'
      gi_wp2
      as_aux_lemma =>
      refine hR.mono ?_
      rintro e W3 (⟨rfl, hJ3, hk3⟩ | ⟨rfl, hJx3⟩)
      · have hnx3 := Aside0.mk ((hnx.alloc hnx.size (.cells #[.string y.f0, .int .i64 y.f1, .int .i64 y.f2, .string y.f3] 45)).trans hk3)
        have hsz3 := Aside0.mk (sq_size (d := W) hsz _ hk3.size)
        clear hR hy' hk3
        gi_wp2
        go_roundw
        case rel => exact ⟨kk + 1, hlt, by simp, by rw [HT.out]; exact hJ3, hnx3.out, hsz3.out⟩
        case measure => simp [intOf]; omega
      · gi_wp2
        refine bodyPost_ret (results_none rfl _ _ _) rfl ?_
        exact ⟨⟨_, rfl⟩, .inr ⟨_, by rw [← HT.out]; exact List.take_prefix _ _, hJx3⟩⟩
    · obtain rfl : kk = xs.length := by omega
      gi_wp2
      go_end0
      rw [List.take_length] at hJs
      exact ⟨⟨_, rfl⟩, .inl ⟨_, rfl, hJs⟩⟩
set_option maxRecDepth 100000 in
set_option maxHeartbeats 1000000 in
theorem values_in (F : Fence) (n : Nat) (h5 : F.fn 76) (hro : F.round = none) (a : Option Addr) (len cap : Nat) (w : World) :
    CallsIn F n Tryz.prog 76 #[.slice a len cap] w fun e w' => e = .returned (.func (.func 139) #[] #[.pointer (some ⟨w.heap.size, 0, none⟩)]) ∧ w' = w.alloc (.cells #[.slice a len cap] 27) := by
  refine callsIn_of_wp Tryz.func76 rfl h5 ?_ hro
  simp only [Tryz.ntmps76, List.size_toArray, List.length_cons, List.length_nil, Nat.reduceAdd, Nat.reduceSub, Array.replicate_succ, Array.replicate_zero, List.push_toArray, List.append_toArray, List.nil_append, List.cons_append]
  gi_wp2
  go_ret
  exact ⟨rfl, rfl⟩
theorem seq_stops (F : Fence) (n : Nat) (h7 : F.fn 139) (hro : F.round = none) (hn : 1 ≤ n) (Bs : Nat) (w0 w : World) (A : Option Addr) (cap : Nat) (xs : List IR) (hrow : Kd.C k45 w0 A xs.length xs) (hmax : xs.length ≤ 1048576) (hB : Below w0.heap.size w0 w) (hBs : Bs < w.heap.size)
    (hc : w.cell? ⟨Bs, 0, none⟩ = some (.slice A xs.length cap)) :
    SeqStopsK F n Tryz.prog 139 #[.pointer (some ⟨Bs, 0, none⟩)] (fun x : IR => #[encR x]) (Below w0.heap.size) (fun ys => ys = xs) (fun pre => pre <+: xs) xs.length w := fun l J Jx W hW hJ _ hY h0 =>
  seq1_in F n h7 hro hn l Bs w0 A cap xs hrow hmax J Jx hY W hJ (hB.trans (hW.mono hB.size)) ((hW.cell (p := ⟨Bs, 0, none⟩) hBs).trans hc) h0
end Go.Proofs.YtiegkjimpclmaaaGreatDoor.P
