/- FnSets: part 12 of 15 of my texts for this claim, joined; the theorem stands in the last. Conditions: none beyond the statement's. -/
import Derived.Test.YtiegkjimpclmaaaGreatDoorMFnSetsx10
import Derived.Lib.OwnBridge
open Go.RowKit Go.Proofs.YtiegkjimpclmaaaGreatDoorW.PrintWords Go.Proofs.YtiegkjimpclmaaaGreatDoorW.PrintLast Go.Proofs.YtiegkjimpclmaaaGreatDoorW.PrintMore
set_option linter.unusedVariables false
set_option linter.unusedSimpArgs false
set_option maxHeartbeats 8000000
set_option maxRecDepth 100000
namespace Go.Proofs.YtiegkjimpclmaaaGreatDoor.Pure
open Go.Proofs.YtiegkjimpclmaaaGreatDoor.P
theorem or_add (n c : Nat) (h : c < 256) : n * 256 ||| c = n * 256 + c := by
 have := Nat.shiftLeft_add_eq_or_of_lt (b := c) (i := 8) (by omega) n
 rw [Nat.shiftLeft_eq] at this
 exact this.symm
def valB (l : List UInt8) (n : Nat) : Nat := l.foldl (fun a x => a * 256 + x.toNat) n
theorem val_loop (b : ByteArray) (hb : b.size ≤ 4) : ∀ (m i n : Nat), i + m = b.size → n < 2 ^ (8 * i) → Ev (fun k => impl_number.l0 k b (n : Int) (b.size : Int) (i : Int)) (valB (b.data.toList.drop i) n : Int)
 | 0, i, n, h, hn => by
  rw [List.drop_of_length_le (by rw [← size_len]; omega)]
  exact Ev.step (f := fun _ => some (n : Int)) (fun k => by rw [impl_number.l0, if_neg (by omega)]) (Ev.now _)
 | m + 1, i, n, h, hn => by
  have hl : i < b.data.toList.length := by rw [← size_len]; omega
  have hle : 2 ^ (8 * i) ≤ 2 ^ 24 := Nat.pow_le_pow_right (by omega) (by omega)
  have hc := (b.data.toList[i]).toNat_lt
  have hbt : bt b (i : Int) = ((b.data.toList[i]).toNat : Int) := by
   rw [bt_getD b i (by omega), List.getD_eq_getElem?_getD, List.getElem?_eq_getElem hl]
   rfl
  have h256 : 2 ^ (8 * (i + 1)) = 2 ^ (8 * i) * 256 := by rw [show 8 * (i + 1) = 8 * i + 8 by omega, Nat.pow_add]
  have ih := val_loop b hb m (i + 1) (n * 256 + (b.data.toList[i]).toNat) (by omega) (by omega)
  rw [List.drop_eq_getElem_cons hl]
  have ev : Go.bits .or .i64 (wrap64 ((n : Int) * 256)) (wrap64 (bt b (i : Int))) = ((n * 256 + (b.data.toList[i]).toNat : Nat) : Int) := by
   rw [hbt, show wrap64 ((n : Int) * 256) = ((n * 256 : Nat) : Int) by unfold wrap64; omega, show wrap64 ((b.data.toList[i]).toNat : Int) = ((b.data.toList[i]).toNat : Int) by unfold wrap64; omega, or64 _ _ (by omega) (by omega), or_add _ _ (by omega)]
  exact Ev.step (fun k => by rw [impl_number.l0, if_pos (by omega), if_pos (by omega), if_pos (by omega), ev, w64n (by omega)]) ih
theorem num_val (b : ByteArray) (hb : b.size ≤ 4) : Ev (fun k => impl_number.f k b) (valB b.data.toList 0 : Int) := by
 have := val_loop b hb b.size 0 0 (by omega) (by decide)
 rwa [List.drop_zero] at this
theorem big4_val (n : Int) (h0 : 0 ≤ n) (h1 : n < 4294967296) : Ev (fun k => impl_number.f k (strOfNums [n / 16777216 % 256, n / 65536 % 256, n / 256 % 256, n % 256])) n := by
 have := num_val (strOfNums [n / 16777216 % 256, n / 65536 % 256, n / 256 % 256, n % 256]) (by rw [strOfNums_size]; show 4 ≤ 4; omega)
 have e : (valB (strOfNums [n / 16777216 % 256, n / 65536 % 256, n / 256 % 256, n % 256]).data.toList 0 : Int) = n := by
  unfold strOfNums valB
  simp only [List.map_cons, List.map_nil, List.foldl_cons, List.foldl_nil, UInt8.toNat_ofNat']
  omega
 rwa [e] at this
theorem big2_val (n : Int) (h0 : 0 ≤ n) (h1 : n < 65536) : Ev (fun k => impl_number.f k (strOfNums [n / 256 % 256, n % 256])) n := by
 have := num_val (strOfNums [n / 256 % 256, n % 256]) (by rw [strOfNums_size]; show 2 ≤ 4; omega)
 have e : (valB (strOfNums [n / 256 % 256, n % 256]).data.toList 0 : Int) = n := by
  unfold strOfNums valB
  simp only [List.map_cons, List.map_nil, List.foldl_cons, List.foldl_nil, UInt8.toNat_ofNat']
  omega
 rwa [e] at this
theorem dig_back {l : List UInt8} (h : canL l = true) : Lib.decDigits (valL l) = l := by
 unfold canL at h
 simp only [Bool.and_eq_true, decide_eq_true_eq, Bool.or_eq_true] at h
 exact digits_back l.length l (Nat.le_refl _) (fun e => by rw [e] at h; simp at h) h.1.2 h.2
theorem back_of {kind : Int} {b d : ByteArray} (hb : b.size ≤ 100) (h : Ev (fun k => impl_DataBytes.f k kind d) (b, true)) (hp : Ev (fun k => preI k kind b) d) : Ev (fun k => impl_ReadData.f k kind b) (d, true) := by
 unfold impl_ReadData.f
 simp only [if_neg (show ¬ 100 < b.size by omega)]
 refine Ev.bind hp ?_
 have := finI_ev (b := b) h
 unfold finR at this
 rwa [if_pos ⟨rfl, rfl⟩] at this
theorem preI_6 (k : Nat) (b : ByteArray) (h : b.size = 4) : preI k 6 b = (impl_number.f k b).bind fun n => strconv_Itoa.f n := by
 unfold preI
 rw [if_neg (by omega), if_neg (by omega), if_pos ⟨rfl, h⟩]
theorem preI_16 (k : Nat) (b : ByteArray) (h : 0 < b.size) : preI k 16 b = some (b.extract 1 b.size) := by
 unfold preI
 rw [if_neg (by omega), if_neg (by omega), if_neg (by omega), if_neg (by omega), if_pos ⟨rfl, h⟩]
theorem back_serial {d b : ByteArray} (hd : d.size ≤ 1048576) (h : Ev (fun k => impl_DataBytes.f k 6 d) (b, true)) : Ev (fun k => impl_ReadData.f k 6 b) (d, true) := by
 obtain ⟨k, hk⟩ := Ev.rounds h
 have hsz := (data_size hd hk rfl).1
 unfold impl_DataBytes.f at hk
 rw [if_neg (by decide), if_neg (by decide), if_pos rfl] at hk
 unfold dataSoa at hk
 obtain ⟨v, hv1, hv2⟩ := number_eq d 4294967295 (by omega) (by omega) (by omega)
 rw [hv1, Option.bind_some] at hk
 by_cases hc : (canL d.data.toList && decide ((valL d.data.toList : Int) ≤ 4294967295)) = true
 · have hv := hv2 hc
   rw [if_pos hc] at hk
   obtain ⟨t, ht, hk⟩ := Option.bind_eq_some_iff.mp hk
   have e : Ev (fun k => impl_big.f k v 4) t := Ev.of (fun k => impl_big.mono _ _ _) ht
   have et := Ev.unique e (big4 v)
   obtain rfl : t = b := (Prod.mk.inj (Option.some.inj hk)).1
   rw [Bool.and_eq_true, decide_eq_true_eq] at hc
   refine back_of hsz h ?_
   have h4 : t.size = 4 := by rw [et, strOfNums_size]; rfl
   have hn := big4_val v (by omega) (by omega)
   rw [← et] at hn
   refine Ev.congr (fun k => preI_6 k t h4) (Ev.bind hn ?_)
   rw [itoa_it v (by omega) (by omega)]
   have : itB v = d := by
    apply ext_data
    unfold itB
    rw [mkB_data, hv, Int.toNat_natCast, dig_back hc.1]
   rw [this]
   exact Ev.now _
 · rw [if_neg hc] at hk
   cases (Prod.mk.inj (Option.some.inj hk)).2
theorem back_text {d b : ByteArray} (hd : d.size ≤ 1048576) (h : Ev (fun k => impl_DataBytes.f k 16 d) (b, true)) : Ev (fun k => impl_ReadData.f k 16 b) (d, true) := by
 obtain ⟨k, hk⟩ := Ev.rounds h
 have hsz := (data_size hd hk rfl).1
 unfold impl_DataBytes.f at hk
 rw [if_neg (by decide), if_neg (by decide), if_neg (by decide), if_neg (by decide), if_pos rfl] at hk
 unfold dataTxt at hk
 by_cases c : (d.size : Int) > 30
 · rw [if_pos c] at hk
   cases (Prod.mk.inj (Option.some.inj hk)).2
 rw [if_neg c] at hk
 split at hk
 · cases (Prod.mk.inj (Option.some.inj hk)).2
 obtain ⟨t, ht, hk⟩ := Option.bind_eq_some_iff.mp hk
 have hz := (big_size ht).1 rfl
 rw [if_pos (by omega)] at hk
 obtain rfl : t ++ d = b := (Prod.mk.inj (Option.some.inj hk)).1
 refine back_of hsz h ?_
 have hs : (t ++ d).size = 1 + d.size := by rw [ByteArray.size_append, hz]
 have e : (t ++ d).extract 1 (t ++ d).size = d := by
  apply ext_data
  have ht1 : t.data.toList.length = 1 := by rw [← size_len]; exact hz
  rw [ext_end, mkB_data]
  have : (t ++ d).data.toList = t.data.toList ++ d.data.toList := by simp
  rw [this, List.drop_append_of_le_length (by omega), List.drop_of_length_le (by omega), List.nil_append]
 exact Ev.congr (fun k => (preI_16 k (t ++ d) (by omega)).trans (by rw [e])) (Ev.now _)
theorem join_split (s : List UInt8) : Lib.join (splitL 46 s) [46] = s := by
 have : ∀ n (s : List UInt8), s.length ≤ n → Lib.join (splitL 46 s) [46] = s := by
  intro n
  induction n with
  | zero =>
   intro s hs
   obtain rfl : s = [] := List.length_eq_zero_iff.1 (by omega)
   rfl
  | succ n ih =>
   intro s hs
   rcases place_or 46 s with ⟨_, h2⟩ | ⟨p, r, h1, h2, h3⟩
   · rw [splitL_none _ _ h2]
     rw [Lib.join_cons]
     simp [Lib.joinTail]
   · rw [h1, splitL_hit 46 p r h2]
     obtain ⟨q, qs, hq⟩ := List.exists_cons_of_ne_nil (splitL_ne 46 r)
     have := ih r (by rw [h1] at hs; simp at hs; omega)
     rw [hq] at this ⊢
     rw [Lib.join_cons, tail_cons, ← Lib.join_cons, this]
 exact this s.length s (Nat.le_refl _)
theorem name_back {s : ByteArray} (h : goodL s.data.toList = true) : nameR ((labelsL s.data.toList).map mkB) = (s, true) := by
 obtain ⟨h1, h2⟩ := good_all h
 have hj : joinL ((labelsL s.data.toList).map mkB) = s.data.toList := by
  unfold joinL
  rw [List.map_map]
  have : ((fun x : ByteArray => x.data.toList) ∘ mkB) = id := by funext z; exact mkB_data z
  rw [this, List.map_id]
  unfold labelsL
  split
  · next e => rw [e]; rfl
  · exact join_split _
 unfold nameR
 rw [if_pos, hj, if_pos h, data_mkB]
 simp only [Bool.and_eq_true, decide_eq_true_eq, List.all_eq_true, List.length_map]
 refine ⟨h1, fun x hx => ?_⟩
 obtain ⟨z, hz, rfl⟩ := List.mem_map.1 hx
 rw [mkB_data]
 exact h2 z hz
theorem l0_back : ∀ (k : Nat) (parts : List ByteArray) (out : ByteArray) (i : Nat) (r : ByteArray × Bool), impl_DataBytes.l0 k parts out (i : Int) = some r → r.2 = true → i ≤ parts.length → parts.length < 1099511627776 → (∀ p ∈ parts, p.size ≤ 1048576) →
 (∀ p ∈ parts.drop i, canL p.data.toList = true ∧ valL p.data.toList ≤ 255) ∧ r.1 = out ++ mkB ((parts.drop i).map fun p => UInt8.ofNat (valL p.data.toList))
 | 0, parts, out, i, r, h, h2, hi, hl, hs => by simp [impl_DataBytes.l0] at h
 | k + 1, parts, out, i, r, h, h2, hi, hl, hs => by
  unfold impl_DataBytes.l0 at h
  by_cases c : (i : Int) < (parts.length : Int)
  · have hi' : i < parts.length := by omega
    obtain ⟨v, hv1, hv2⟩ := number_eq parts[i] 255 (by have := hs _ (List.getElem_mem hi'); omega) (by omega) (by omega)
    rw [if_pos c, if_pos (by omega), td_rd parts i hi', hv1, Option.bind_some] at h
    by_cases hc : (canL parts[i].data.toList && decide ((valL parts[i].data.toList : Int) ≤ 255)) = true
    · rw [if_pos hc] at h
      have hv := hv2 hc
      rw [Bool.and_eq_true, decide_eq_true_eq] at hc
      by_cases c4 : (parts.length : Int) = 4
      · rw [if_pos c4] at h
        obtain ⟨t, ht, h⟩ := Option.bind_eq_some_iff.mp h
        have e : Ev (fun k => impl_big.f k v 1) t := Ev.of (fun k => impl_big.mono _ _ _) ht
        have et : t = mkB [UInt8.ofNat (valL parts[i].data.toList)] := by
         rw [Ev.unique e (big1 v), hv, show ((valL parts[i].data.toList : Nat) : Int) % 256 = ((valL parts[i].data.toList : Nat) : Int) by omega]
         rfl
        by_cases c5 : out.size + t.size ≤ 9223372036854775807
        · rw [if_pos c5, w64n (by omega)] at h
          obtain ⟨g1, g2⟩ := l0_back k parts (out ++ t) (i + 1) r h h2 (by omega) hl hs
          rw [List.drop_eq_getElem_cons hi']
          refine ⟨fun p hp => ?_, ?_⟩
          · rcases List.mem_cons.mp hp with rfl | hp
            · exact ⟨hc.1, by omega⟩
            · exact g1 p hp
          · rw [g2, et, List.map_cons]
            apply ext_data
            simp [mkB_data]
        · rw [if_neg c5] at h; cases h
      · rw [if_neg c4] at h
        obtain rfl := Option.some.inj h
        cases h2
    · rw [if_neg hc] at h
      obtain rfl := Option.some.inj h
      cases h2
  · rw [if_neg c] at h
    obtain rfl := Option.some.inj h
    rw [List.drop_of_length_le (by omega)]
    refine ⟨(fun p hp => by cases hp), ?_⟩
    apply ext_data
    simp [mkB_data]
theorem preI_1 (k : Nat) (b : ByteArray) (h : b.size = 4) : preI k 1 b = some (mkB (joinL (partsI b))) := by
 unfold preI
 rw [if_pos ⟨rfl, h⟩]
theorem back_addr {d b : ByteArray} (hd : d.size ≤ 1048576) (h : Ev (fun k => impl_DataBytes.f k 1 d) (b, true)) : Ev (fun k => impl_ReadData.f k 1 b) (d, true) := by
 obtain ⟨k, hk⟩ := Ev.rounds h
 have hsz := (data_size hd hk rfl).1
 unfold impl_DataBytes.f at hk
 rw [if_pos rfl] at hk
 obtain ⟨parts, hp, hk⟩ := Option.bind_eq_some_iff.mp hk
 unfold strings_Split.f at hp
 rw [if_pos (show (⟨#[46]⟩ : ByteArray).size = 1 from rfl), if_pos (by omega), show (⟨#[46]⟩ : ByteArray).data.toList.headD 0 = 46 from rfl] at hp
 obtain rfl := Option.some.inj hp
 have hlen := splitL_len 46 d.data.toList
 rw [← size_len] at hlen
 have hne := List.length_pos_iff.2 (splitL_ne 46 d.data.toList)
 have hll : ((splitL 46 d.data.toList).map mkB).length = (splitL 46 d.data.toList).length := List.length_map ..
 have hps : ∀ p ∈ (splitL 46 d.data.toList).map mkB, p.size ≤ 1048576 := by
  intro x hx
  obtain ⟨q, hq, rfl⟩ := List.mem_map.1 hx
  have := splitL_part 46 _ q hq
  rw [← size_len] at this
  rw [mkB_size]
  omega
 have hz := l0_size k _ _ 0 _ hk rfl (by omega) (by omega)
 have h4 := hz.1 (by omega)
 have hb4 : b.size = 4 := by
  have := hz.2
  rw [h4] at this
  exact this.trans (by show 0 + (4 - 0) = 4; omega)
 obtain ⟨g1, g2⟩ := l0_back k _ _ 0 _ hk rfl (by omega) (by omega) hps
 rw [List.drop_zero] at g1 g2
 refine back_of hsz h ?_
 have e : partsI b = (splitL 46 d.data.toList).map mkB := by
  have gb : b.data.toList = ((splitL 46 d.data.toList).map mkB).map fun p => UInt8.ofNat (valL p.data.toList) := by
   replace g2 : b = (⟨#[]⟩ : ByteArray) ++ mkB (((splitL 46 d.data.toList).map mkB).map fun p => UInt8.ofNat (valL p.data.toList)) := g2
   rw [g2]
   simp [mkB_data]
  unfold partsI bytesOf
  rw [gb, List.map_map, List.map_map]
  refine (List.map_congr_left fun p hp => ?_).trans (List.map_id _)
  obtain ⟨c1, c2⟩ := g1 p hp
  show itoaB ((UInt8.ofNat (valL p.data.toList)).toNat : Int) = p
  rw [UInt8.toNat_ofNat', itoaB_it _ (by omega)]
  apply ext_data
  unfold itB
  rw [mkB_data, Int.toNat_natCast, Nat.mod_eq_of_lt (by omega), dig_back c1]
 have ej : mkB (joinL (partsI b)) = d := by
  rw [e]
  apply ext_data
  rw [mkB_data]
  unfold joinL
  rw [List.map_map, show ((fun x : ByteArray => x.data.toList) ∘ mkB) = id from funext fun x => by simp [mkB_data], List.map_id, join_split]
 exact Ev.congr (fun k => (preI_1 k b hb4).trans (by rw [ej])) (Ev.now _)
def encL (l : List ByteArray) : List UInt8 := l.flatMap fun p => UInt8.ofNat p.size :: p.data.toList
theorem lb_loop (parts : List ByteArray) (hp : ∀ p ∈ parts, p.size ≤ 100) (hl : parts.length ≤ 1000) : ∀ (m i : Nat) (acc : ByteArray), i + m = parts.length → acc.size + m * 1024 < 1099511627776 →
 Ev (fun k => impl_labelBytes.l0 k acc parts (parts.length : Int) (i : Int)) (acc ++ mkB (encL (parts.drop i)))
 | 0, i, acc, him, ha => by
  rw [List.drop_of_length_le (by omega), show acc ++ mkB (encL []) = acc by apply ext_data; simp [encL, mkB_data]]
  exact Ev.step (f := fun _ => some acc) (fun k => by rw [impl_labelBytes.l0, if_neg (by omega)]) (Ev.now _)
 | m + 1, i, acc, him, ha => by
  have hi : i < parts.length := by omega
  have hs : ∀ v : Int, (strOfNums [v]).size = 1 := fun v => by rw [strOfNums_size]; rfl
  have hpi := hp _ (List.getElem_mem hi)
  have ih := lb_loop parts hp hl m (i + 1) (acc ++ (strOfNums [((parts[i].size : Int)) % 256] ++ parts[i])) (by omega) (by
   rw [ByteArray.size_append, ByteArray.size_append, hs]; omega)
  have e : (acc ++ (strOfNums [((parts[i].size : Int)) % 256] ++ parts[i])) ++ mkB (encL (parts.drop (i + 1))) = acc ++ mkB (encL (parts.drop i)) := by
   rw [List.drop_eq_getElem_cons hi, show ((parts[i].size : Int)) % 256 = (parts[i].size : Int) by omega]
   generalize parts.drop (i + 1) = D
   generalize parts[i] = x
   apply ext_data
   unfold encL strOfNums
   simp [mkB_data]
  rw [e] at ih
  refine Ev.step (fun k => ?_) ih
  show impl_labelBytes.l0 (k + 1) acc parts (parts.length : Int) (i : Int) = _
  conv => lhs; unfold impl_labelBytes.l0
  rw [if_pos (by omega), if_pos (by omega), if_pos (by omega), nb_rd _ _ hi, Option.bind_some, if_pos (by rw [hs]; omega), if_pos (by rw [ByteArray.size_append, hs]; omega), w64n (by omega)]
theorem lb_enc (s : ByteArray) (h : goodL s.data.toList = true) : Ev (fun k => impl_labelBytes.f k s) (mkB (encL ((labelsL s.data.toList).map mkB))) := by
 have hg := good_size h
 obtain ⟨g1, g2⟩ := good_all h
 have hss := size_len s
 have := lb_loop ((labelsL s.data.toList).map mkB) (by
  intro p hp
  obtain ⟨x, hx, rfl⟩ := List.mem_map.1 hp
  have := label_size (g2 x hx)
  rw [mkB_size]
  omega) (by rw [List.length_map]; omega) _ 0 (⟨#[]⟩ : ByteArray) (Nat.zero_add _) (by rw [List.length_map]; show 0 + _ < _; omega)
 rw [List.drop_zero, show (⟨#[]⟩ : ByteArray) ++ mkB (encL ((labelsL s.data.toList).map mkB)) = mkB (encL ((labelsL s.data.toList).map mkB)) by apply ext_data; simp [mkB_data]] at this
 refine Ev.congr (f := fun k => impl_labelBytes.l0 k (⟨#[]⟩ : ByteArray) ((labelsL s.data.toList).map mkB) (((labelsL s.data.toList).map mkB).length : Int) 0) (fun k => ?_) this
 unfold impl_labelBytes.f
 rw [labelsOf_eq s (by omega)]
 rfl
theorem byteAt_mkB (x : List UInt8) (i : Nat) (h : i < x.length) : byteAt (mkB x) i = (x[i]).toNat := by
 unfold byteAt
 rw [bt_mkB x i h]
 omega
theorem reads_enc : ∀ (ls : List ByteArray) (pre : List UInt8), (∀ x ∈ ls, isLabelL x.data.toList = true) → ∃ pl, Reads (mkB (pre ++ (encL ls ++ [0]))) pre.length 0 ls pl (pre.length + (encL ls).length + 1)
 | [], pre, h => by
  refine ⟨[], ?_⟩
  have hb : byteAt (mkB (pre ++ (encL [] ++ [0]))) pre.length = 0 := by
   rw [byteAt_mkB _ _ (by simp [encL])]
   simp [encL]
  exact .fin pre.length 0 (by rw [mkB_size]; simp [encL]) hb
 | x :: xs, pre, h => by
  have hx := h x (List.mem_cons_self ..)
  have hs1 := label_size hx
  have hs2 := label_pos hx
  rw [← size_len] at hs1 hs2
  have ee : encL (x :: xs) = UInt8.ofNat x.size :: (x.data.toList ++ encL xs) := by simp [encL]
  have el : pre ++ (encL (x :: xs) ++ [0]) = (pre ++ UInt8.ofNat x.size :: x.data.toList) ++ (encL xs ++ [0]) := by rw [ee]; simp
  obtain ⟨pl, ih⟩ := reads_enc xs (pre ++ UInt8.ofNat x.size :: x.data.toList) (fun y hy => h y (List.mem_cons_of_mem _ hy))
  have hlen : (pre ++ UInt8.ofNat x.size :: x.data.toList).length = pre.length + 1 + x.size := by
   rw [List.length_append, List.length_cons, ← size_len]; omega
  have hb : byteAt (mkB (pre ++ (encL (x :: xs) ++ [0]))) pre.length = x.size := by
   rw [byteAt_mkB _ _ (by rw [ee]; simp)]
   have : (pre ++ (encL (x :: xs) ++ [0]))[pre.length]'(by rw [ee]; simp) = UInt8.ofNat x.size := by
    simp [ee]
   rw [this, UInt8.toNat_ofNat']
   omega
  have hz : (mkB (pre ++ (encL (x :: xs) ++ [0]))).size = pre.length + 1 + x.size + (encL xs).length + 1 := by
   rw [mkB_size, el, List.length_append, hlen, List.length_append]
   simp
   omega
  have hraw : rawL (mkB (pre ++ (encL (x :: xs) ++ [0]))) pre.length = x.data.toList := by
   unfold rawL
   rw [hb, mkB_data, ee]
   have : (pre ++ (UInt8.ofNat x.size :: (x.data.toList ++ encL xs) ++ [0])).drop (pre.length + 1) = x.data.toList ++ (encL xs ++ [0]) := by
    rw [show pre ++ (UInt8.ofNat x.size :: (x.data.toList ++ encL xs) ++ [0]) = (pre ++ [UInt8.ofNat x.size]) ++ (x.data.toList ++ (encL xs ++ [0])) by simp]
    rw [List.drop_append_of_le_length (by simp), List.drop_of_length_le (by simp), List.nil_append]
   rw [this, List.take_append_of_le_length (by rw [← size_len]; omega), List.take_of_length_le (by rw [← size_len]; omega)]
  have hlow : mkB ((rawL (mkB (pre ++ (encL (x :: xs) ++ [0]))) pre.length).map lowB) = x := by
   rw [hraw, label_low hx, data_mkB]
  rw [← el, hlen] at ih
  have := Reads.lab pre.length 0 xs pl _ (by rw [hb]; omega) (by rw [hb]; omega) (by rw [hb, hz]; omega) (by rw [hb]; exact ih)
  rw [hlow] at this
  refine ⟨(pre.length : Int) :: pl, ?_⟩
  have e2 : pre.length + (encL (x :: xs)).length + 1 = pre.length + 1 + x.size + (encL xs).length + 1 := by
   rw [ee, List.length_cons, List.length_append, ← size_len]; omega
  rw [e2]
  exact this
theorem name_reads (s : ByteArray) (h : goodL s.data.toList = true) : Ev (fun k => impl_nameIn.f k (mkB (encL ((labelsL s.data.toList).map mkB) ++ [0]))) s := by
 obtain ⟨g1, g2⟩ := good_all h
 have hlab : ∀ x ∈ (labelsL s.data.toList).map mkB, isLabelL x.data.toList = true := by
  intro x hx
  obtain ⟨q, hq, rfl⟩ := List.mem_map.1 hx
  rw [mkB_data]
  exact g2 q hq
 obtain ⟨pl, hr⟩ := reads_enc ((labelsL s.data.toList).map mkB) [] hlab
 rw [List.nil_append] at hr
 obtain ⟨r, e1, _, e3⟩ := nb_both s h
 have hz := good_size h
 rw [← size_len] at hz
 have hsz : (mkB (encL ((labelsL s.data.toList).map mkB) ++ [0])).size ≤ 600 := by
  have := congrArg ByteArray.size (Ev.unique (lb_enc s h) e1)
  rw [mkB_size] at this
  rw [mkB_size, List.length_append, this, e3]
  simp only [List.length_cons, List.length_nil]
  split <;> omega
 have ht := reads_take (mkB (encL ((labelsL s.data.toList).map mkB) ++ [0])) hsz hr [] [] (-1) (by rw [List.length_map]; simpa using g1) (by simp)
 rw [List.nil_append, name_back h] at ht
 exact Ev.bind (f := fun _ bt292 => some bt292.1) ht (Ev.now _)
theorem cut_at (s : ByteArray) (hs : s.size ≤ 1048576) (p r : List UInt8) (h1 : s.data.toList = p ++ 32 :: r) (h2 : ∀ x ∈ p, x ≠ 32) : strings_Cut.f s (⟨#[32]⟩ : ByteArray) = some (mkB p, mkB r, true) := by
 have hix : Lib.indexByte s.data.toList 32 = (p.length : Int) := by
  rcases place_or 32 s.data.toList with ⟨_, g2⟩ | ⟨p', r', g1, g2, g3⟩
  · exact absurd rfl (g2 32 (by rw [h1]; simp))
  · have e : p' :: splitL 32 r' = p :: splitL 32 r := by rw [← splitL_hit 32 p' r' g2, ← g1, h1, splitL_hit 32 p r h2]
    rw [g3, (List.cons.inj e).1]
 have hl : p.length + (r.length + 1) = s.size := by rw [size_len, h1]; simp
 unfold strings_Cut.f stringslite_Cut.f internal_stringslite_Index.f
 rw [if_pos (show (⟨#[32]⟩ : ByteArray).size = 1 from rfl)]
 simp only [Option.bind_some]
 rw [show List.headD (⟨#[32]⟩ : ByteArray).data.toList 0 = 32 from rfl, show (⟨#[32]⟩ : ByteArray).size = 1 from rfl, hix, show (((1 : Nat) : Int)) = 1 from rfl, w64n (by omega), if_pos (by omega), if_pos (by omega), if_pos (by omega), if_pos (by omega), if_pos (by omega), Int.toNat_natCast, Int.toNat_natCast, ext_mkB, ext_end]
 have e1 : (s.data.toList.drop 0).take (p.length - 0) = p := by rw [h1]; simp
 have e2 : s.data.toList.drop (p.length + 1) = r := by
  rw [h1, show p ++ 32 :: r = (p ++ [32]) ++ r by simp, List.drop_append_of_le_length (by simp), List.drop_of_length_le (by simp), List.nil_append]
 rw [e1, e2]
 rfl
abbrev LSetP := S82
theorem rdSS (l : List SSet) (i : Nat) (h : i < l.length) : rd_T83 l (i : Int) = l[i] := by
 unfold rd_T83
 rw [Int.toNat_natCast, List.getD_eq_getElem?_getD, List.getElem?_eq_getElem h, Option.getD_some]
def cntS (l : List SSet) : Nat := (l.map fun s => s.f3.length).sum
theorem cntS_cons (x : SSet) (l : List SSet) : cntS (x :: l) = x.f3.length + cntS l := by simp [cntS]
theorem can_len10 {l : List UInt8} (h : canL l = true) : l.length ≤ 10 := by
 unfold canL at h
 simp only [Bool.and_eq_true, decide_eq_true_eq] at h
 exact h.1.1.2
theorem end_zero (l : List UInt8) : mkB l ++ (⟨#[0]⟩ : ByteArray) = mkB (l ++ [0]) := by
 apply ext_data
 simp [mkB_data]
theorem lb_is {k : Nat} {s lb : ByteArray} (ht : impl_isTarget.f s = some true) (h : impl_labelBytes.f k s = some lb) : lb = mkB (encL ((labelsL s.data.toList).map mkB)) ∧ goodL s.data.toList = true := by
 have hT : targL s.data.toList = true := Option.some.inj ((target_impl s).symm.trans ht)
 have hg := targ_good hT
 have e : Ev (fun k => impl_labelBytes.f k s) lb := Ev.of (fun k => impl_labelBytes.mono _ _) h
 exact ⟨Ev.unique e (lb_enc s hg), hg⟩
theorem back_name {kind : Int} {d b : ByteArray} (hk2 : kind = 2 ∨ kind = 5) (hd : d.size ≤ 1048576) (h : Ev (fun k => impl_DataBytes.f k kind d) (b, true)) : Ev (fun k => impl_ReadData.f k kind b) (d, true) := by
 obtain ⟨k, hk⟩ := Ev.rounds h
 have hsz := (data_size hd hk rfl).1
 have k1 : ¬ kind = 1 := by omega
 unfold impl_DataBytes.f at hk
 rw [if_neg k1, if_pos hk2] at hk
 unfold dataNs at hk
 obtain ⟨t, ht, hk⟩ := Option.bind_eq_some_iff.mp hk
 cases t with
 | false =>
  rw [if_neg (by decide)] at hk
  cases (Prod.mk.inj (Option.some.inj hk)).2
 | true =>
  rw [if_pos rfl] at hk
  obtain ⟨lb, hlb, hk⟩ := Option.bind_eq_some_iff.mp hk
  have hz := lab_size ht hlb
  obtain ⟨e1, e2⟩ := lb_is ht hlb
  rw [if_pos (by omega), e1, end_zero] at hk
  obtain rfl := (Prod.mk.inj (Option.some.inj hk)).1
  refine back_of hsz h (Ev.congr (fun k => ?_) (name_reads d e2))
  unfold preI
  rw [if_neg (fun e => k1 e.1), if_pos hk2]
theorem preI_15 (k : Nat) (b : ByteArray) (h : 2 < b.size) : preI k 15 b = (impl_number.f k (b.extract 0 2)).bind fun n => (strconv_Itoa.f n).bind fun t => (impl_nameIn.f k (b.extract 2 b.size)).bind fun s => (if t.size + s.size ≤ 1000000 then some ((t ++ (⟨#[32]⟩ : ByteArray)) ++ s) else none) := by
 unfold preI
 rw [if_neg (by omega), if_neg (by omega), if_neg (by omega), if_pos ⟨rfl, h⟩]
theorem back_mail {d b : ByteArray} (hd : d.size ≤ 1048576) (h : Ev (fun k => impl_DataBytes.f k 15 d) (b, true)) : Ev (fun k => impl_ReadData.f k 15 b) (d, true) := by
 obtain ⟨k, hk⟩ := Ev.rounds h
 have hsz := (data_size hd hk rfl).1
 unfold impl_DataBytes.f at hk
 rw [if_neg (by decide), if_neg (by decide), if_neg (by decide), if_pos rfl] at hk
 unfold dataMx at hk
 rcases place_or 32 d.data.toList with ⟨h1, h2⟩ | ⟨p, r, h1, h2, h3⟩
 · have hcut : strings_Cut.f d (⟨#[32]⟩ : ByteArray) = some (d, (⟨#[]⟩ : ByteArray), false) := by
    unfold strings_Cut.f stringslite_Cut.f internal_stringslite_Index.f
    rw [if_pos (show (⟨#[32]⟩ : ByteArray).size = 1 from rfl)]
    simp only [Option.bind_some]
    rw [show List.headD (⟨#[32]⟩ : ByteArray).data.toList 0 = 32 from rfl, h1, if_neg (by omega)]
    rfl
   rw [hcut, Option.bind_some] at hk
   obtain ⟨bb, hbb, hk⟩ := Option.bind_eq_some_iff.mp hk
   by_cases c : bb.2 = true
   · rw [if_pos c, target_impl, Option.bind_some, if_neg (show ¬ targL (⟨#[]⟩ : ByteArray).data.toList = true by decide)] at hk
     cases (Prod.mk.inj (Option.some.inj hk)).2
   · rw [if_neg c] at hk
     cases (Prod.mk.inj (Option.some.inj hk)).2
 · have hpz : p.length + r.length + 1 = d.size := by rw [size_len, h1]; simp; omega
   rw [cut_at d hd p r h1 h2, Option.bind_some] at hk
   obtain ⟨v, hv1, hv2⟩ := number_eq (mkB p) 65535 (by rw [mkB_size]; omega) (by omega) (by omega)
   rw [mkB_data] at hv1 hv2
   rw [hv1, Option.bind_some] at hk
   by_cases hc : (canL p && decide ((valL p : Int) ≤ 65535)) = true
   · have hv := hv2 hc
     rw [if_pos hc] at hk
     obtain ⟨t, ht, hk⟩ := Option.bind_eq_some_iff.mp hk
     cases t with
     | false =>
      rw [if_neg (by decide)] at hk
      cases (Prod.mk.inj (Option.some.inj hk)).2
     | true =>
      rw [if_pos rfl] at hk
      obtain ⟨g, hg, hk⟩ := Option.bind_eq_some_iff.mp hk
      obtain ⟨lb, hlb, hk⟩ := Option.bind_eq_some_iff.mp hk
      have hz := lab_size ht hlb
      have hgz := (big_size hg).2.1 rfl
      obtain ⟨e1, e2⟩ := lb_is ht hlb
      have eg0 : Ev (fun k => impl_big.f k v 2) g := Ev.of (fun k => impl_big.mono _ _ _) hg
      have eg := Ev.unique eg0 (big2 v)
      rw [if_pos (by omega), if_pos (by omega)] at hk
      obtain rfl := (Prod.mk.inj (Option.some.inj hk)).1
      rw [Bool.and_eq_true, decide_eq_true_eq] at hc
      have hbz : ((g ++ lb) ++ (⟨#[0]⟩ : ByteArray)).size = 2 + lb.size + 1 := by rw [ByteArray.size_append, ByteArray.size_append, hgz]; rfl
      have hgl : g.data.toList.length = 2 := by rw [← size_len]; exact hgz
      have hdt : ((g ++ lb) ++ (⟨#[0]⟩ : ByteArray)).data.toList = g.data.toList ++ (lb.data.toList ++ [0]) := by simp
      have x1 : ((g ++ lb) ++ (⟨#[0]⟩ : ByteArray)).extract 0 2 = g := by
       apply ext_data
       rw [ext_mkB, mkB_data, hdt, List.drop_zero, List.take_append_of_le_length (by omega), List.take_of_length_le (by omega)]
      have x2 : ((g ++ lb) ++ (⟨#[0]⟩ : ByteArray)).extract 2 ((g ++ lb) ++ (⟨#[0]⟩ : ByteArray)).size = mkB (encL ((labelsL (mkB r).data.toList).map mkB) ++ [0]) := by
       apply ext_data
       rw [ext_end, mkB_data, hdt, List.drop_append_of_le_length (by omega), List.drop_of_length_le (by omega), List.nil_append, e1]
       simp only [mkB_data]
      have hn := big2_val v (by omega) (by omega)
      rw [← eg] at hn
      have hvt : itB v = mkB p := by
       unfold itB
       rw [hv, Int.toNat_natCast, dig_back hc.1]
      refine back_of hsz h (Ev.congr (fun k => (preI_15 k _ (by omega)).trans (by rw [x1, x2])) (Ev.bind hn ?_))
      rw [itoa_it v (by omega) (by omega)]
      simp only [Option.bind_some]
      refine Ev.bind (name_reads (mkB r) e2) ?_
      rw [hvt]
      simp only [if_pos (show (mkB p).size + (mkB r).size ≤ 1000000 by have h1 := hz.2.1; replace h1 : (mkB r).size ≤ 60 := h1; have h2 : p.length ≤ 10 := can_len10 hc.1; rw [mkB_size]; omega)]
      have : (mkB p ++ (⟨#[32]⟩ : ByteArray)) ++ mkB r = d := by
       apply ext_data
       rw [h1]
       simp [mkB_data]
      rw [this]
      exact Ev.now _
   · rw [if_neg hc] at hk
     cases (Prod.mk.inj (Option.some.inj hk)).2
theorem data_back {kind : Int} {d b : ByteArray} (hd : d.size ≤ 1048576) (h : Ev (fun k => impl_DataBytes.f k kind d) (b, true)) : Ev (fun k => impl_ReadData.f k kind b) (d, true) := by
 by_cases k1 : kind = 1
 · subst k1; exact back_addr hd h
 by_cases k2 : kind = 2 ∨ kind = 5
 · exact back_name k2 hd h
 by_cases k6 : kind = 6
 · subst k6; exact back_serial hd h
 by_cases k15 : kind = 15
 · subst k15; exact back_mail hd h
 by_cases k16 : kind = 16
 · subst k16; exact back_text hd h
 obtain ⟨k, hk⟩ := Ev.rounds h
 unfold impl_DataBytes.f at hk
 rw [if_neg k1, if_neg k2, if_neg k6, if_neg k15, if_neg k16] at hk
 cases (Prod.mk.inj (Option.some.inj hk)).2
end Go.Proofs.YtiegkjimpclmaaaGreatDoor.Pure
namespace Go.Proofs.YtiegkjimpclmaaaGreatDoor.Pure
open Go.Proofs.YtiegkjimpclmaaaGreatDoor.P
open Classical in
noncomputable def gd (r : IRec) : Bool := decide (Ev (fun k => impl_GoodRecord.f k r.f0 r.f1 r.f2 r.f3) true)
open Classical in
noncomputable def bt (r : IRec) : List UInt8 := if h : ∃ x : ByteArray, Ev (fun k => impl_DataBytes.f k r.f1 r.f3) (x, true) then (Classical.choose h).data.toList else []
noncomputable def od (q r : IRec) : Int := ordR q.f0.data.toList q.f1 q.f2 (bt q) r.f0.data.toList r.f1 r.f2 (bt r)
def SmR (r : IRec) : Prop := Small r.f0 ∧ Small r.f3
def SmS (s : SSet) : Prop := Small s.f0 ∧ ∀ z ∈ s.f3, Small z
open Classical in
theorem gd_iff (r : IRec) : gd r = true ↔ Ev (fun k => impl_GoodRecord.f k r.f0 r.f1 r.f2 r.f3) true := by
 unfold gd
 exact decide_eq_true_iff
theorem gd_ev (r : IRec) (h : SmR r) : Ev (fun k => impl_GoodRecord.f k r.f0 r.f1 r.f2 r.f3) (gd r) ∧ Ev (fun k => spec_GoodRecord.f k r.f0 r.f1 r.f2 r.f3) (gd r) := by
 obtain ⟨b, q, r1, r2, _⟩ := goodrec_both r.f0 r.f1 r.f2 r.f3 h.1 h.2
 have e : gd r = b := by
  cases b with
  | true => exact (gd_iff r).2 r2
  | false => exact Bool.eq_false_iff.2 fun h => by cases Ev.unique ((gd_iff r).1 h) r2
 rw [e]
 exact ⟨r2, r1⟩
theorem bt_eq {r : IRec} (hs : SmR r) (h : gd r = true) : ∃ x : ByteArray, bt r = x.data.toList ∧ Ev (fun k => spec_l3Bytes.f k r.f1 r.f3) (x, true) ∧ Ev (fun k => impl_DataBytes.f k r.f1 r.f3) (x, true) := by
 have hg := (gd_iff r).1 h
 obtain ⟨x, x1, x2⟩ := good_bytes r.f1 r.f3 r.f0 r.f2 hs.1 hs.2 hg
 have he : ∃ x : ByteArray, Ev (fun k => impl_DataBytes.f k r.f1 r.f3) (x, true) := ⟨x, x2⟩
 refine ⟨x, ?_, x1, x2⟩
 unfold bt
 rw [dif_pos he, (Prod.mk.inj (Ev.unique (Classical.choose_spec he) x2)).1]
theorem od_ev {q r : IRec} (hq : SmR q) (hr : SmR r) (gq : gd q = true) (gr : gd r = true) :
 Ev (fun k => impl_compareRecords.f k q.f0 q.f1 q.f2 q.f3 r.f0 r.f1 r.f2 r.f3) (od q r) ∧ Ev (fun k => spec_l3Compare.f k q.f0 q.f1 q.f2 q.f3 r.f0 r.f1 r.f2 r.f3) (od q r) := by
 obtain ⟨x, ex, x1, x2⟩ := bt_eq hq gq
 obtain ⟨y, ey, y1, y2⟩ := bt_eq hr gr
 obtain ⟨_, p, _⟩ := good_parts q.f0 q.f1 q.f2 q.f3 hq.1 hq.2 ((gd_iff q).1 gq)
 obtain ⟨_, p', _⟩ := good_parts r.f0 r.f1 r.f2 r.f3 hr.1 hr.2 ((gd_iff r).1 gr)
 unfold od
 rw [ex, ey]
 exact ⟨implOrd_ev _ _ _ _ _ _ _ _ _ _ hq.1 hr.1 x2 y2, specOrd_ev _ _ _ _ _ _ _ _ _ _ hq.1 hr.1 p p' x1 y1⟩
noncomputable def rise : Option IRec → List IRec → Bool
 | _, [] => true
 | p, r :: R => gd r && (p.all (fun q => decide (od q r < 0)) && rise (some r) R)
theorem rise_cons (p : Option IRec) (r : IRec) (R : List IRec) : rise p (r :: R) = (p.all (fun q => decide (od q r < 0)) && rise none (r :: R)) := by
 simp only [rise, Option.all_none, Bool.true_and]
 cases gd r <;> cases p.all (fun q => decide (od q r < 0)) <;> rfl
def recs (a : ByteArray) (b c : Int) (ds : List ByteArray) : List IRec := ds.map fun d => ⟨a, b, c, d⟩
def recsOf (s : SSet) : List IRec := recs s.f0 s.f1 s.f2 s.f3
theorem recs_len (a : ByteArray) (b c : Int) (ds : List ByteArray) : (recs a b c ds).length = ds.length := by simp [recs]
theorem flat_len (l : List SSet) : (l.flatMap recsOf).length = cntS l := by
 induction l with
 | nil => rfl
 | cons s l ih => rw [List.flatMap_cons, List.length_append, cntS_cons, ih]; unfold recsOf; rw [recs_len]
def kd (q s : SSet) : Int := or2 (ordL q.f0.data.toList s.f0.data.toList) (cmpI q.f1 s.f1)
def one (q s : SSet) : Prop := q.f0 = s.f0 ∧ q.f1 = s.f1
theorem kd_zero (q s : SSet) : kd q s = 0 ↔ one q s := by
 unfold kd one
 rw [or2_zero, ord_zero, cmpI_zero]
 exact ⟨fun h => ⟨ext_data h.1, h.2⟩, fun h => ⟨by rw [h.1], h.2⟩⟩
noncomputable def iv : Option SSet → Nat → List SSet → Bool
 | _, _, [] => true
 | p, n, s :: l => !s.f3.isEmpty && (decide (n + s.f3.length ≤ 60) && (p.all (fun q => decide (kd q s < 0)) && (rise none (recsOf s) && iv (some s) (n + s.f3.length) l)))
noncomputable def sv : Option IRec → List SSet → Bool
 | _, [] => true
 | p, s :: l => !s.f3.isEmpty && (rise p (recsOf s) && sv (recsOf s).getLast? l)
def dk : Option SSet → List SSet → Prop
 | _, [] => True
 | p, s :: l => (∀ q, p = some q → ¬ one q s) ∧ dk (some s) l
def link (p : Option SSet) (pr : Option IRec) : Prop := (p = none ∧ pr = none) ∨ ∃ q r, p = some q ∧ pr = some r ∧ r.f0 = q.f0 ∧ r.f1 = q.f1
theorem link_last (s : SSet) (h : s.f3 ≠ []) : link (some s) (recsOf s).getLast? := by
 right
 refine ⟨s, ⟨s.f0, s.f1, s.f2, s.f3.getLast h⟩, rfl, ?_, rfl, rfl⟩
 unfold recsOf recs
 rw [List.getLast?_map, List.getLast?_eq_some_getLast h]
 rfl
theorem keys_one {p : Option SSet} {pr : Option IRec} (hl : link p pr) (s : SSet) (h : s.f3 ≠ []) :
 ((p.all (fun q => decide (kd q s < 0)) && rise none (recsOf s)) = true) ↔ (rise pr (recsOf s) = true ∧ ∀ q, p = some q → ¬ one q s) := by
 obtain ⟨d, ds, hd⟩ := List.exists_cons_of_ne_nil h
 have hr : recsOf s = (⟨s.f0, s.f1, s.f2, d⟩ : IRec) :: recs s.f0 s.f1 s.f2 ds := by unfold recsOf recs; rw [hd]; rfl
 rcases hl with ⟨rfl, rfl⟩ | ⟨q, r, rfl, rfl, e0, e1⟩
 · simp
 · rw [hr, rise_cons (some r)]
   simp only [Option.all_some, Bool.and_eq_true, decide_eq_true_eq]
   have ho : od r (⟨s.f0, s.f1, s.f2, d⟩ : IRec) = or2 (kd q s) (or2 (Lib.compareBytes (bt r) (bt (⟨s.f0, s.f1, s.f2, d⟩ : IRec))) (cmpI r.f2 s.f2)) := by
    unfold od ordR kd
    rw [e0, e1]
   rw [ho]
   by_cases hk : kd q s = 0
   · constructor
     · rintro ⟨h, _⟩; omega
     · rintro ⟨_, h⟩; exact absurd ((kd_zero q s).1 hk) (h q rfl)
   · have e : ∀ z, or2 (kd q s) z = kd q s := fun z => by unfold or2; rw [if_neg hk]
     rw [e]
     constructor
     · rintro ⟨h, h'⟩
       refine ⟨⟨h, h'⟩, fun q' hq' => ?_⟩
       cases hq'
       exact fun h => hk ((kd_zero q s).2 h)
     · rintro ⟨h, _⟩; exact h
theorem iv_sv : ∀ (l : List SSet) (p : Option SSet) (pr : Option IRec) (n : Nat), link p pr → n ≤ 60 → ((iv p n l = true) ↔ (sv pr l = true ∧ dk p l ∧ n + cntS l ≤ 60))
 | [], p, pr, n, hl, hn => by simp [iv, sv, dk, cntS, hn]
 | s :: l, p, pr, n, hl, hn => by
  by_cases h : s.f3 = []
  · simp [iv, sv, h]
  · have he : (!s.f3.isEmpty) = true := by simp [h]
    unfold iv sv dk
    rw [he, cntS_cons, Bool.true_and, Bool.true_and, ← Bool.and_assoc (p.all _), Bool.and_eq_true, Bool.and_eq_true (p.all (fun q => decide (kd q s < 0)) && rise none (recsOf s)), keys_one hl s h, Bool.and_eq_true (rise pr _), decide_eq_true_eq]
    by_cases hc : n + s.f3.length ≤ 60
    · rw [iv_sv l (some s) (recsOf s).getLast? (n + s.f3.length) (link_last s h) hc]
      constructor
      · rintro ⟨_, ⟨a, b⟩, c, d, e⟩; exact ⟨⟨a, c⟩, ⟨b, d⟩, by omega⟩
      · rintro ⟨⟨a, c⟩, ⟨b, d⟩, e⟩; exact ⟨hc, ⟨a, b⟩, c, d, by omega⟩
    · constructor
      · rintro ⟨h, _⟩; exact absurd h hc
      · rintro ⟨_, _, h⟩; omega
def new (r : IRec) : SSet := ⟨r.f0, r.f1, r.f2, [r.f3]⟩
def gstep (acc : List SSet) (r : IRec) : Option (List SSet) :=
 match acc.getLast? with
 | none => some (acc ++ [new r])
 | some s => if s.f0 = r.f0 ∧ s.f1 = r.f1 then (if s.f2 = r.f2 then some (acc.set (acc.length - 1) ⟨s.f0, s.f1, s.f2, s.f3 ++ [r.f3]⟩) else none) else some (acc ++ [new r])
def gf : List SSet → List IRec → Option (List SSet)
 | acc, [] => some acc
 | acc, r :: R => (gstep acc r).bind fun a => gf a R
theorem gstep_same (acc : List SSet) (s : SSet) (d : ByteArray) : gstep (acc ++ [s]) ⟨s.f0, s.f1, s.f2, d⟩ = some (acc ++ [⟨s.f0, s.f1, s.f2, s.f3 ++ [d]⟩]) := by
 unfold gstep
 rw [List.getLast?_append, List.getLast?_singleton]
 simp
theorem gf_run (acc : List SSet) (R : List IRec) : ∀ (ds : List ByteArray) (s : SSet), gf (acc ++ [s]) (recs s.f0 s.f1 s.f2 ds ++ R) = gf (acc ++ [⟨s.f0, s.f1, s.f2, s.f3 ++ ds⟩]) R
 | [], s => by simp [recs]
 | d :: ds, s => by
  show gf (acc ++ [s]) ((⟨s.f0, s.f1, s.f2, d⟩ : IRec) :: (recs s.f0 s.f1 s.f2 ds ++ R)) = _
  show (gstep _ _).bind _ = _
  rw [gstep_same, Option.bind_some]
  have := gf_run acc R ds ⟨s.f0, s.f1, s.f2, s.f3 ++ [d]⟩
  simp only [List.append_assoc, List.singleton_append] at this
  rw [this]
theorem gf_new (acc : List SSet) (s : SSet) (R : List IRec) (hn : s.f3 ≠ []) (h : ∀ q, acc.getLast? = some q → ¬ one q s) : gf acc (recsOf s ++ R) = gf (acc ++ [s]) R := by
 obtain ⟨d, ds, hd⟩ := List.exists_cons_of_ne_nil hn
 have hr : recsOf s = (⟨s.f0, s.f1, s.f2, d⟩ : IRec) :: recs s.f0 s.f1 s.f2 ds := by unfold recsOf recs; rw [hd]; rfl
 have hg : gstep acc ⟨s.f0, s.f1, s.f2, d⟩ = some (acc ++ [⟨s.f0, s.f1, s.f2, [d]⟩]) := by
  unfold gstep
  cases hq : acc.getLast? with
  | none => rfl
  | some q => exact if_neg (h q hq)
 rw [hr, List.cons_append]
 show (gstep acc _).bind _ = _
 rw [hg, Option.bind_some]
 have := gf_run acc R ds ⟨s.f0, s.f1, s.f2, [d]⟩
 simp only [List.singleton_append] at this
 rw [this, ← hd]
theorem gf_same (acc : List SSet) (q s : SSet) (R : List IRec) (hn : s.f3 ≠ []) (h : one q s) : gf (acc ++ [q]) (recsOf s ++ R) = none ∨ gf (acc ++ [q]) (recsOf s ++ R) = gf (acc ++ [⟨q.f0, q.f1, q.f2, q.f3 ++ s.f3⟩]) R := by
 by_cases h2 : q.f2 = s.f2
 · right
   have e : recsOf s = recs q.f0 q.f1 q.f2 s.f3 := by unfold recsOf; rw [h.1, h.2, h2]
   rw [e, gf_run]
 · left
   obtain ⟨d, ds, hd⟩ := List.exists_cons_of_ne_nil hn
   have hr : recsOf s = (⟨s.f0, s.f1, s.f2, d⟩ : IRec) :: recs s.f0 s.f1 s.f2 ds := by unfold recsOf recs; rw [hd]; rfl
   have hg : gstep (acc ++ [q]) ⟨s.f0, s.f1, s.f2, d⟩ = none := by
    unfold gstep
    rw [List.getLast?_append, List.getLast?_singleton]
    show (if q.f0 = s.f0 ∧ q.f1 = s.f1 then (if q.f2 = s.f2 then _ else none) else _) = none
    rw [if_pos (show q.f0 = s.f0 ∧ q.f1 = s.f1 from h), if_neg h2]
   rw [hr, List.cons_append]
   show (gstep _ _).bind _ = _
   rw [hg]
   rfl
theorem gf_all : ∀ (l acc : List SSet), (∀ s ∈ l, s.f3 ≠ []) → dk acc.getLast? l → gf acc (l.flatMap recsOf) = some (acc ++ l)
 | [], acc, _, _ => by simp [gf]
 | s :: l, acc, hn, hd => by
  rw [List.flatMap_cons, gf_new acc s _ (hn s (by simp)) hd.1, gf_all l (acc ++ [s]) (fun t ht => hn t (by simp [ht])) (by rw [List.getLast?_append, List.getLast?_singleton]; exact hd.2)]
  simp
theorem gf_len : ∀ (l acc S : List SSet), (∀ s ∈ l, s.f3 ≠ []) → gf acc (l.flatMap recsOf) = some S → S.length ≤ acc.length + l.length ∧ (S.length = acc.length + l.length → dk acc.getLast? l)
 | [], acc, S, _, h => by
  simp [gf] at h
  subst h
  exact ⟨by simp, fun _ => trivial⟩
 | s :: l, acc, S, hn, h => by
  rw [List.flatMap_cons] at h
  by_cases hc : ∃ q, acc.getLast? = some q ∧ one q s
  · obtain ⟨q, hq, ho⟩ := hc
    obtain ⟨acc', rfl⟩ := List.getLast?_eq_some_iff.1 hq
    rcases gf_same acc' q s (l.flatMap recsOf) (hn s (by simp)) ho with e | e
    · rw [e] at h; cases h
    · rw [e] at h
      have := (gf_len l _ S (fun t ht => hn t (by simp [ht])) h).1
      simp only [List.length_append, List.length_cons, List.length_nil] at this ⊢
      exact ⟨by omega, fun h => by omega⟩
  · have hc' : ∀ q, acc.getLast? = some q → ¬ one q s := fun q hq ho => hc ⟨q, hq, ho⟩
    rw [gf_new acc s _ (hn s (by simp)) hc'] at h
    obtain ⟨g1, g2⟩ := gf_len l _ S (fun t ht => hn t (by simp [ht])) h
    rw [List.getLast?_append, List.getLast?_singleton] at g2
    simp only [List.length_append, List.length_cons, List.length_nil] at g1 g2 ⊢
    exact ⟨by omega, fun h => ⟨hc', g2 (by omega)⟩⟩
theorem sv_full : ∀ (l : List SSet) (p : Option IRec), sv p l = true → ∀ s ∈ l, s.f3 ≠ []
 | [], p, _, s, hs => by cases hs
 | t :: l, p, h, s, hs => by
  unfold sv at h
  simp only [Bool.and_eq_true] at h
  rcases List.mem_cons.1 hs with rfl | hs
  · intro e; simp [e] at h
  · exact sv_full l _ h.2.2 s hs
end Go.Proofs.YtiegkjimpclmaaaGreatDoor.Pure
namespace Go.Proofs.YtiegkjimpclmaaaGreatDoor.Pure
open Go.Proofs.YtiegkjimpclmaaaGreatDoor.P
theorem cmpI_trans {a b c : Int} (h : cmpI a b < 0) (h' : cmpI b c < 0) : cmpI a c < 0 := by
 have e : ∀ x y : Int, cmpI x y < 0 ↔ x < y := fun x y => by
  unfold cmpI
  by_cases h1 : x < y
  · rw [if_pos h1]; omega
  · rw [if_neg h1]; by_cases h2 : y < x
    · rw [if_pos h2]; omega
    · rw [if_neg h2]; omega
 rw [e] at *
 omega
theorem cmpB_trans : ∀ {x y z : List UInt8}, Lib.compareBytes x y < 0 → Lib.compareBytes y z < 0 → Lib.compareBytes x z < 0
 | [], y, [], h, h' => by
  cases y with
  | nil => exact h
  | cons a y => simp [Lib.compareBytes] at h'
 | [], y, _ :: _, h, h' => by simp [Lib.compareBytes]
 | a :: x, [], z, h, h' => by simp [Lib.compareBytes] at h
 | a :: x, b :: y, [], h, h' => by simp [Lib.compareBytes] at h'
 | a :: x, b :: y, c :: z, h, h' => by
  unfold Lib.compareBytes at *
  by_cases h1 : a < b
  · by_cases h2 : b < c
    · rw [if_pos (UInt8.lt_trans h1 h2)]; decide
    · rw [if_neg h2] at h'
      by_cases h3 : c < b
      · rw [if_pos h3] at h'; omega
      · have : b = c := by
         have h2 := UInt8.not_lt.1 h2; have h3 := UInt8.not_lt.1 h3
         exact UInt8.le_antisymm h3 h2
        subst this
        rw [if_pos h1]; decide
  · rw [if_neg h1] at h
    by_cases h2 : b < a
    · rw [if_pos h2] at h; omega
    · have : a = b := by
       have h1 := UInt8.not_lt.1 h1; have h2 := UInt8.not_lt.1 h2
       exact UInt8.le_antisymm h2 h1
      subst this
      rw [if_neg h2] at h
      by_cases h3 : a < c
      · rw [if_pos h3]; decide
      · rw [if_neg h3] at h' ⊢
        by_cases h4 : c < a
        · rw [if_pos h4] at h'; omega
        · rw [if_neg h4] at h' ⊢
          exact cmpB_trans h h'
theorem or2_trans {a1 a2 a3 b1 b2 b3 : Int} (ha : a1 < 0 → a2 < 0 → a3 < 0) (h1 : a1 = 0 → a3 = a2) (h2 : a2 = 0 → a3 = a1) (hb : b1 < 0 → b2 < 0 → b3 < 0) (h : or2 a1 b1 < 0) (h' : or2 a2 b2 < 0) : or2 a3 b3 < 0 := by
 unfold or2 at *
 by_cases c1 : a1 = 0
 · rw [if_pos c1] at h
   have e := h1 c1
   by_cases c2 : a2 = 0
   · rw [if_pos c2] at h'
     rw [if_pos (by omega)]
     exact hb h h'
   · rw [if_neg c2] at h'
     rw [if_neg (by omega)]
     omega
 · rw [if_neg c1] at h
   by_cases c2 : a2 = 0
   · have e := h2 c2
     rw [if_neg (by omega)]
     omega
   · rw [if_neg c2] at h'
     have := ha h h'
     rw [if_neg (by omega)]
     exact this
theorem ordR_trans {a b c : List UInt8} {t1 t2 t3 u1 u2 u3 : Int} {x y z : List UInt8} (h : ordR a t1 u1 x b t2 u2 y < 0) (h' : ordR b t2 u2 y c t3 u3 z < 0) : ordR a t1 u1 x c t3 u3 z < 0 := by
 unfold ordR at *
 refine or2_trans (fun p q => ?_) (fun e => ?_) (fun e => ?_) (fun p q => ?_) h h'
 · exact or2_trans ord_trans (fun e => by rw [(ord_zero _ _).1 e]) (fun e => by rw [(ord_zero _ _).1 e]) cmpI_trans p q
 · obtain ⟨e1, e2⟩ := (or2_zero _ _).1 e
   rw [(ord_zero _ _).1 e1, (cmpI_zero _ _).1 e2]
 · obtain ⟨e1, e2⟩ := (or2_zero _ _).1 e
   rw [(ord_zero _ _).1 e1, (cmpI_zero _ _).1 e2]
 · exact or2_trans cmpB_trans (fun e => by rw [(cmpB_zero _ _).1 e]) (fun e => by rw [(cmpB_zero _ _).1 e]) cmpI_trans p q
theorem od_trans {q r s : IRec} (h : od q r < 0) (h' : od r s < 0) : od q s < 0 := ordR_trans h h'
theorem od_neg (q r : IRec) : od r q = - od q r := ordR_neg ..
theorem w64p {n : Nat} (h0 : 0 < n) (h : n < 4611686018427387904) : wrap64 ((n : Int) - 1) = ((n - 1 : Nat) : Int) := by unfold wrap64; omega
theorem toL_iff (x y : ByteArray) : x.toList = y.toList ↔ x = y := ⟨fun h => by rw [Lib.toList_data, Lib.toList_data] at h; exact ext_data h, fun h => by rw [h]⟩
def valG (o : Option (List SSet)) : List SSet × Bool := match o with | none => ([], false) | some S => (S, decide ((S.length : Int) ≤ 40))
theorem l3_same (k : Nat) (acc : List SSet) (x7 : Int) (all : List IRec) (n i : Int) (a : ByteArray) (b c : Int) (d : ByteArray) : spec_l3Sets.j1 (k + 1) acc x7 all n i true a b c d = (if 0 ≤ x7 then (if x7 < (acc.length : Int) then (if ((rd_T83 acc x7).f2) = c then (if ((rd_T83 acc x7).f3).length < 8796093022208 then (spec_l3Sets.l0 k (acc.set (x7 : Int).toNat (⟨(rd_T83 acc x7).f0, (rd_T83 acc x7).f1, (rd_T83 acc x7).f2, (((rd_T83 acc x7).f3) ++ [d])⟩ : SSet)) all n (wrap64 (i + 1))) else (none)) else (some (([] : List SSet), false))) else (none)) else (none)) := rfl
theorem l3_new (k : Nat) (acc : List SSet) (x7 : Int) (all : List IRec) (n i : Int) (a : ByteArray) (b c : Int) (d : ByteArray) : spec_l3Sets.j1 (k + 1) acc x7 all n i false a b c d = (if acc.length < 2513169434916 then (spec_l3Sets.l0 k (acc ++ [(⟨a, b, c, (([d] : List ByteArray))⟩ : SSet)]) all n (wrap64 (i + 1))) else (none)) := rfl
theorem l3_loop (all : List IRec) (hl : all.length < 1099511627776) : ∀ (m i : Nat) (acc : List SSet), i + m = all.length → acc.length ≤ i → (∀ s ∈ acc, s.f3.length ≤ i) → Ev (fun k => spec_l3Sets.l0 k acc all (all.length : Int) (i : Int)) (valG (gf acc (all.drop i)))
 | 0, i, acc, hi, ha, hs => by
  rw [List.drop_of_length_le (by omega)]
  refine Ev.step (f := fun _ => some (acc, decide ((acc.length : Int) ≤ 40))) (fun k => ?_) (Ev.now _)
  show spec_l3Sets.l0 (k + 1) acc all (all.length : Int) (i : Int) = _
  rw [spec_l3Sets.l0, if_neg (by omega)]
 | m + 1, i, acc, hi, ha, hs => by
  have hlt : i < all.length := by omega
  have hw : wrap64 ((i : Int) + 1) = ((i + 1 : Nat) : Int) := w64n (by omega)
  rw [List.drop_eq_getElem_cons hlt]
  show Ev _ (valG ((gstep acc all[i]).bind fun a => gf a (all.drop (i + 1))))
  have hnew : ∀ x7 : Int, Ev (fun k => spec_l3Sets.j1 k acc x7 all (all.length : Int) (i : Int) false all[i].f0 all[i].f1 all[i].f2 all[i].f3) (valG (gf (acc ++ [new all[i]]) (all.drop (i + 1)))) := by
   intro x7
   have ih := l3_loop all hl m (i + 1) (acc ++ [new all[i]]) (by omega) (by rw [List.length_append, List.length_singleton]; omega) (fun s h => by
    rcases List.mem_append.1 h with h | h
    · have := hs s h; omega
    · rw [List.mem_singleton.1 h]; simp [new])
   refine Ev.step (fun k => ?_) ih
   rw [l3_new, if_pos (by omega), hw]
   rfl
  have e0 : ∀ k, spec_l3Sets.l0 (k + 1) acc all (all.length : Int) (i : Int) = (if (wrap64 ((acc.length : Int) - 1)) ≥ 0 then (if 0 ≤ (wrap64 ((acc.length : Int) - 1)) then (if (wrap64 ((acc.length : Int) - 1)) < (acc.length : Int) then (if ((rd_T83 acc (wrap64 ((acc.length : Int) - 1))).f0).toList = all[i].f0.toList then (spec_l3Sets.j1 k acc (wrap64 ((acc.length : Int) - 1)) all (all.length : Int) (i : Int) (((rd_T83 acc (wrap64 ((acc.length : Int) - 1))).f1) == all[i].f1) all[i].f0 all[i].f1 all[i].f2 all[i].f3) else (spec_l3Sets.j1 k acc (wrap64 ((acc.length : Int) - 1)) all (all.length : Int) (i : Int) false all[i].f0 all[i].f1 all[i].f2 all[i].f3)) else (none)) else (none)) else (spec_l3Sets.j1 k acc (wrap64 ((acc.length : Int) - 1)) all (all.length : Int) (i : Int) false all[i].f0 all[i].f1 all[i].f2 all[i].f3)) := fun k => by
   rw [spec_l3Sets.l0, if_pos (by omega), if_pos (by omega), if_pos (by omega), rdI all i hlt]
  refine Ev.step e0 ?_
  unfold gstep
  rcases List.eq_nil_or_concat acc with rfl | ⟨pre, q, rfl⟩
  · have hww : wrap64 ((([] : List SSet).length : Int) - 1) = -1 := by show wrap64 (((0 : Nat) : Int) - 1) = -1; unfold wrap64; omega
    simp only [hww, if_neg (show ¬ ((-1 : Int) ≥ 0) by omega), List.getLast?_nil, Option.bind_some]
    exact hnew _
  · rw [List.concat_eq_append] at *
    have hlen : (pre ++ [q]).length = pre.length + 1 := by simp
    have hww : wrap64 (((pre ++ [q]).length : Int) - 1) = (pre.length : Int) := by rw [hlen, w64p (by omega) (by omega)]; rfl
    have hrd : rd_T83 (pre ++ [q]) (pre.length : Int) = q := by rw [rdSS _ _ (by omega)]; simp
    simp only [hww, hrd, if_pos (show (pre.length : Int) ≥ 0 by omega), if_pos (show (0 : Int) ≤ (pre.length : Int) by omega), if_pos (show (pre.length : Int) < ((pre ++ [q]).length : Int) by omega), List.getLast?_append, List.getLast?_singleton, Option.some_or]
    by_cases h0 : q.f0 = all[i].f0
    · simp only [if_pos ((toL_iff _ _).2 h0)]
      by_cases h1 : q.f1 = all[i].f1
      · rw [if_pos ⟨h0, h1⟩, show (q.f1 == all[i].f1) = true by rw [h1]; exact beq_self_eq_true _]
        by_cases h2 : q.f2 = all[i].f2
        · rw [if_pos h2, Option.bind_some]
          have hq3 := hs q (by simp)
          have hset : (pre ++ [q]).set ((pre ++ [q]).length - 1) (⟨q.f0, q.f1, q.f2, q.f3 ++ [all[i].f3]⟩ : SSet) = (pre ++ [q]).set pre.length (⟨q.f0, q.f1, q.f2, q.f3 ++ [all[i].f3]⟩ : SSet) := by rw [hlen, Nat.add_sub_cancel]
          rw [hset]
          have ih := l3_loop all hl m (i + 1) ((pre ++ [q]).set pre.length (⟨q.f0, q.f1, q.f2, q.f3 ++ [all[i].f3]⟩ : SSet)) (by omega) (by rw [List.length_set]; omega) (fun s h => by
           rcases List.mem_or_eq_of_mem_set h with h | rfl
           · have := hs s h; omega
           · show (q.f3 ++ [all[i].f3]).length ≤ i + 1
             rw [List.length_append, List.length_singleton]; omega)
          refine Ev.step (fun k => ?_) ih
          rw [l3_same, if_pos (by omega), if_pos (by omega), hrd, if_pos h2, if_pos (by omega), hw, Int.toNat_natCast]
        · rw [if_neg h2]
          refine Ev.step (f := fun _ => some (([] : List SSet), false)) (fun k => ?_) (Ev.now _)
          rw [l3_same, if_pos (by omega), if_pos (by omega), hrd, if_neg h2]
      · rw [if_neg (fun h => h1 h.2), beq_eq_false_iff_ne.2 h1, Option.bind_some]
        exact hnew _
    · simp only [if_neg (fun h => h0 ((toL_iff _ _).1 h))]
      rw [if_neg (fun h => h0 h.1), Option.bind_some]
      exact hnew _
theorem l3_ev (all : List IRec) (hl : all.length < 1099511627776) : Ev (fun k => spec_l3Sets.f k all) (valG (gf [] all)) :=
 Ev.congr (fun k => rfl) (l3_loop all hl all.length 0 [] (by omega) (by simp) (fun s h => by cases h))
theorem recsOf_new (r : IRec) : recsOf (new r) = [r] := by cases r; rfl
theorem gstep_flat {acc acc' : List SSet} {r : IRec} (h : gstep acc r = some acc') : acc'.flatMap recsOf = acc.flatMap recsOf ++ [r] ∧ (∀ s ∈ acc', s.f3 ≠ [] ∨ s ∈ acc) := by
 have hnew : acc' = acc ++ [new r] → acc'.flatMap recsOf = acc.flatMap recsOf ++ [r] ∧ (∀ s ∈ acc', s.f3 ≠ [] ∨ s ∈ acc) := by
  rintro rfl
  refine ⟨by rw [List.flatMap_append, List.flatMap_singleton, recsOf_new], fun s hs => ?_⟩
  rcases List.mem_append.1 hs with h | h
  · exact .inr h
  · rw [List.mem_singleton.1 h]; exact .inl (by simp [new])
 unfold gstep at h
 rcases List.eq_nil_or_concat acc with rfl | ⟨pre, s, rfl⟩
 · exact hnew (Option.some.inj h).symm
 · rw [List.concat_eq_append] at *
   rw [List.getLast?_append, List.getLast?_singleton] at h
   replace h : (if s.f0 = r.f0 ∧ s.f1 = r.f1 then (if s.f2 = r.f2 then some ((pre ++ [s]).set ((pre ++ [s]).length - 1) ⟨s.f0, s.f1, s.f2, s.f3 ++ [r.f3]⟩) else none) else some ((pre ++ [s]) ++ [new r])) = some acc' := h
   by_cases c : s.f0 = r.f0 ∧ s.f1 = r.f1
   · rw [if_pos c] at h
     by_cases c2 : s.f2 = r.f2
     · rw [if_pos c2] at h
       have hset : (pre ++ [s]).set ((pre ++ [s]).length - 1) (⟨s.f0, s.f1, s.f2, s.f3 ++ [r.f3]⟩ : SSet) = pre ++ [⟨s.f0, s.f1, s.f2, s.f3 ++ [r.f3]⟩] := by simp
       rw [hset] at h
       obtain rfl := Option.some.inj h
       refine ⟨?_, fun x hx => ?_⟩
       · have e : recsOf (⟨s.f0, s.f1, s.f2, s.f3 ++ [r.f3]⟩ : SSet) = recsOf s ++ [r] := by
          unfold recsOf recs
          rw [List.map_append, List.map_singleton, c.1, c.2, c2]
         rw [List.flatMap_append, List.flatMap_append, List.flatMap_singleton, List.flatMap_singleton, e, List.append_assoc]
       · rcases List.mem_append.1 hx with h | h
         · exact .inr (by simp [h])
         · rw [List.mem_singleton.1 h]; exact .inl (by simp)
     · rw [if_neg c2] at h; cases h
   · rw [if_neg c] at h
     exact hnew (Option.some.inj h).symm
theorem gf_flat : ∀ (R : List IRec) (acc S : List SSet), gf acc R = some S → S.flatMap recsOf = acc.flatMap recsOf ++ R
 | [], acc, S, h => by
  obtain rfl := Option.some.inj (show some acc = some S from h)
  simp
 | r :: R, acc, S, h => by
  obtain ⟨a, ha, h⟩ := Option.bind_eq_some_iff.1 (show (gstep acc r).bind (fun a => gf a R) = some S from h)
  rw [gf_flat R a S h, (gstep_flat ha).1, List.append_assoc]
  rfl
theorem gf_full : ∀ (R : List IRec) (acc S : List SSet), gf acc R = some S → (∀ s ∈ acc, s.f3 ≠ []) → ∀ s ∈ S, s.f3 ≠ []
 | [], acc, S, h, ha => by
  obtain rfl := Option.some.inj (show some acc = some S from h)
  exact ha
 | r :: R, acc, S, h, ha => by
  obtain ⟨a, hga, h⟩ := Option.bind_eq_some_iff.1 (show (gstep acc r).bind (fun a => gf a R) = some S from h)
  refine gf_full R a S h (fun s hs => ?_)
  rcases (gstep_flat hga).2 s hs with h | h
  · exact h
  · exact ha s h
end Go.Proofs.YtiegkjimpclmaaaGreatDoor.Pure
namespace Go.Proofs.YtiegkjimpclmaaaGreatDoor.Pure
open Go.Proofs.YtiegkjimpclmaaaGreatDoor.P
theorem od_same {q r : IRec} (hq : SmR q) (hr : SmR r) (gq : gd q = true) (gr : gd r = true) (h : od q r = 0) : q = r := by
 obtain ⟨x, ex, x1, x2⟩ := bt_eq hq gq
 obtain ⟨y, ey, y1, y2⟩ := bt_eq hr gr
 unfold od at h
 rw [ordR_zero, ex, ey] at h
 obtain ⟨e0, e1, e3, e2⟩ := h
 have e3 := ext_data e3
 have e0 := ext_data e0
 subst e3
 rw [e1] at x2
 have e4 := (Prod.mk.inj (Ev.unique (data_back hq.2 x2) (data_back hr.2 y2))).1
 cases q
 cases r
 simp only at e0 e1 e2 e4
 subst e0 e1 e2 e4
 rfl
def Goods (xs : List IRec) : Prop := ∀ x ∈ xs, SmR x ∧ gd x = true
def Inline (ys : List IRec) : Prop := ys.Pairwise (fun x y => ¬ od y x < 0)
theorem inline_one : ∀ (a b : List IRec), a.Perm b → Goods a → Inline a → Inline b → a = b
 | [], b, hp, _, _, _ => (List.nil_perm.1 hp).symm
 | x :: a, [], hp, _, _, _ => by have := hp.length_eq; simp at this
 | x :: a, y :: b, hp, hg, ha, hb => by
  have hx : x ∈ y :: b := hp.subset (by simp)
  have hy : y ∈ x :: a := hp.symm.subset (by simp)
  have h1 : x = y := by
   rcases List.mem_cons.1 hx with e | hx
   · exact e
   · rcases List.mem_cons.1 hy with e | hy
     · exact e.symm
     · have h1 := (List.pairwise_cons.1 ha).1 y hy
       have h2 := (List.pairwise_cons.1 hb).1 x hx
       have h3 := od_neg x y
       exact od_same (hg x (by simp)).1 (hg y (by simp [hy])).1 (hg x (by simp)).2 (hg y (by simp [hy])).2 (by omega)
  subst h1
  rw [inline_one a b ((List.perm_cons x).1 hp) (fun z hz => hg z (by simp [hz])) (List.pairwise_cons.1 ha).2 (List.pairwise_cons.1 hb).2]
open Classical in
noncomputable def inOrder (xs : List IRec) : List IRec := if h : ∃ ys : List IRec, ys.Perm xs ∧ Inline ys then Classical.choose h else []
theorem inOrder_eq {xs ys : List IRec} (hg : Goods xs) (hp : ys.Perm xs) (hs : Inline ys) : inOrder xs = ys := by
 have h : ∃ ys : List IRec, ys.Perm xs ∧ Inline ys := ⟨ys, hp, hs⟩
 unfold inOrder
 rw [dif_pos h]
 obtain ⟨h1, h2⟩ := Classical.choose_spec h
 exact inline_one _ _ (h1.trans hp.symm) (fun z hz => hg z (h1.subset hz)) h2 hs
noncomputable def insW (r : IRec) : List IRec → List IRec
 | [] => [r]
 | y :: ys => if od y r < 0 then y :: insW r ys else r :: y :: ys
theorem insW_perm (r : IRec) : ∀ ys, (insW r ys).Perm (r :: ys)
 | [] => List.Perm.refl _
 | y :: ys => by
  unfold insW
  by_cases h : od y r < 0
  · rw [if_pos h]; exact ((insW_perm r ys).cons y).trans (List.Perm.swap r y ys)
  · rw [if_neg h]
theorem od_ntrans {a b c : IRec} (ha : SmR a ∧ gd a = true) (hb : SmR b ∧ gd b = true) (h : ¬ od b a < 0) (h' : ¬ od c b < 0) : ¬ od c a < 0 := by
 intro h3
 have h4 := od_neg a b
 by_cases h5 : od a b < 0
 · exact h' (od_trans h3 h5)
 · have := od_same ha.1 hb.1 ha.2 hb.2 (by omega)
   subst this
   exact h' h3
theorem insW_line (r : IRec) (hr : SmR r ∧ gd r = true) : ∀ ys, Goods ys → Inline ys → Inline (insW r ys)
 | [], _, _ => by unfold insW; exact List.pairwise_singleton _ _
 | y :: ys, hg, hs => by
  have h1 := List.pairwise_cons.1 hs
  unfold insW
  by_cases h : od y r < 0
  · rw [if_pos h]
    refine List.pairwise_cons.2 ⟨fun z hz => ?_, insW_line r hr ys (fun z hz => hg z (by simp [hz])) h1.2⟩
    rcases List.mem_cons.1 ((insW_perm r ys).subset hz) with rfl | hz
    · have := od_neg y z; omega
    · exact h1.1 z hz
  · rw [if_neg h]
    refine List.pairwise_cons.2 ⟨fun z hz => ?_, hs⟩
    rcases List.mem_cons.1 hz with rfl | hz
    · exact h
    · exact od_ntrans hr (hg y (by simp)) h (h1.1 z hz)
theorem ex_line : ∀ xs, Goods xs → ∃ ys : List IRec, ys.Perm xs ∧ Inline ys
 | [], _ => ⟨[], List.Perm.refl _, List.Pairwise.nil⟩
 | x :: xs, hg => by
  obtain ⟨ys, hp, hs⟩ := ex_line xs (fun z hz => hg z (by simp [hz]))
  exact ⟨insW x ys, (insW_perm x ys).trans (hp.cons x), insW_line x (hg x (by simp)) ys (fun z hz => hg z (by simp [hp.subset hz])) hs⟩
theorem inOrder_spec {xs : List IRec} (hg : Goods xs) : (inOrder xs).Perm xs ∧ Inline (inOrder xs) := by
 unfold inOrder
 rw [dif_pos (ex_line xs hg)]
 exact Classical.choose_spec (ex_line xs hg)
def Strict (ys : List IRec) : Prop := ys.Pairwise (fun x y => od x y < 0)
theorem strict_one : ∀ (a b : List IRec), (∀ x, x ∈ a ↔ x ∈ b) → Strict a → Strict b → a = b
 | [], [], _, _, _ => rfl
 | [], y :: b, h, _, _ => by have := (h y).2 (by simp); simp at this
 | x :: a, [], h, _, _ => by have := (h x).1 (by simp); simp at this
 | x :: a, y :: b, h, ha, hb => by
  have ha' := List.pairwise_cons.1 ha
  have hb' := List.pairwise_cons.1 hb
  have h1 : x = y := by
   rcases List.mem_cons.1 ((h x).1 (by simp)) with e | hx
   · exact e
   · rcases List.mem_cons.1 ((h y).2 (by simp)) with e | hy
     · exact e.symm
     · have h1 := ha'.1 y hy
       have h2 := hb'.1 x hx
       have h3 := od_neg x y
       omega
  subst h1
  have hx : od x x = 0 := by have := od_neg x x; omega
  rw [strict_one a b (fun z => ?_) ha'.2 hb'.2]
  constructor
  · intro hz
    rcases List.mem_cons.1 ((h z).1 (by simp [hz])) with rfl | hz'
    · have := ha'.1 z hz; omega
    · exact hz'
  · intro hz
    rcases List.mem_cons.1 ((h z).2 (by simp [hz])) with rfl | hz'
    · have := hb'.1 z hz; omega
    · exact hz'
open Classical in
noncomputable def dd : Option IRec → List IRec → List IRec
 | _, [] => []
 | p, x :: xs => if p = some x then dd p xs else x :: dd (some x) xs
def Ahead (p : Option IRec) (ys : List IRec) : Prop := ∀ r, p = some r → (SmR r ∧ gd r = true) ∧ ∀ y ∈ ys, ¬ od y r < 0
theorem Ahead.tail {p : Option IRec} {y : IRec} {ys : List IRec} (h : Ahead p (y :: ys)) : Ahead p ys := fun r e => ⟨(h r e).1, fun z hz => (h r e).2 z (by simp [hz])⟩
theorem Ahead.next {y : IRec} {ys : List IRec} (hg : Goods (y :: ys)) (hs : Inline (y :: ys)) : Ahead (some y) ys := fun r e => by
 cases e
 exact ⟨hg y (by simp), (List.pairwise_cons.1 hs).1⟩
theorem Ahead.lt {p : Option IRec} {y r : IRec} {ys : List IRec} (h : Ahead p (y :: ys)) (hg : Goods (y :: ys)) (hn : p ≠ some y) (e : p = some r) : od r y < 0 := by
 have h1 := (h r e).2 y (by simp)
 have h2 := od_neg r y
 by_cases c : od r y = 0
 · have := od_same (h r e).1.1 (hg y (by simp)).1 (h r e).1.2 (hg y (by simp)).2 c
   subst this
   exact absurd e hn
 · omega
theorem dd_spec : ∀ (ys : List IRec) (p : Option IRec), Goods ys → Inline ys → Ahead p ys → Strict (dd p ys) ∧ (∀ x ∈ dd p ys, x ∈ ys ∧ ∀ r, p = some r → od r x < 0) ∧ (∀ x ∈ ys, x ∈ dd p ys ∨ p = some x)
 | [], p, _, _, _ => ⟨by unfold dd; exact List.Pairwise.nil, fun x hx => by simp [dd] at hx, fun x hx => by simp at hx⟩
 | y :: ys, p, hg, hs, hp => by
  have hg' : Goods ys := fun z hz => hg z (by simp [hz])
  have hs' := List.pairwise_cons.1 hs
  unfold dd
  by_cases c : p = some y
  · rw [if_pos c]
    obtain ⟨i1, i2, i3⟩ := dd_spec ys p hg' hs'.2 hp.tail
    refine ⟨i1, fun x hx => ⟨by simp [(i2 x hx).1], (i2 x hx).2⟩, fun x hx => ?_⟩
    rcases List.mem_cons.1 hx with rfl | hx
    · exact .inr c
    · exact i3 x hx
  · rw [if_neg c]
    obtain ⟨i1, i2, i3⟩ := dd_spec ys (some y) hg' hs'.2 (Ahead.next hg hs)
    refine ⟨List.pairwise_cons.2 ⟨fun x hx => (i2 x hx).2 y rfl, i1⟩, fun x hx => ?_, fun x hx => ?_⟩
    · rcases List.mem_cons.1 hx with rfl | hx
      · exact ⟨by simp, fun r e => hp.lt hg c e⟩
      · exact ⟨by simp [(i2 x hx).1], fun r e => od_trans (hp.lt hg c e) ((i2 x hx).2 y rfl)⟩
    · rcases List.mem_cons.1 hx with rfl | hx
      · exact .inl (by simp)
      · rcases i3 x hx with h | h
        · exact .inl (by simp [h])
        · cases h; exact .inl (by simp)
theorem dd_len : ∀ (ys : List IRec) (p : Option IRec), (dd p ys).length ≤ ys.length
 | [], p => by simp [dd]
 | y :: ys, p => by
  unfold dd
  split
  · have := dd_len ys p; simp only [List.length_cons]; omega
  · have := dd_len ys (some y); simp only [List.length_cons]; omega
noncomputable def uniq (xs : List IRec) : List IRec := dd none (inOrder xs)
theorem inOrder_good {xs : List IRec} (hg : Goods xs) : Goods (inOrder xs) := fun z hz => hg z ((inOrder_spec hg).1.subset hz)
theorem uniq_spec {xs : List IRec} (hg : Goods xs) : Strict (uniq xs) ∧ (∀ x, x ∈ uniq xs ↔ x ∈ xs) ∧ (uniq xs).length ≤ xs.length := by
 obtain ⟨h1, h2, h3⟩ := dd_spec (inOrder xs) none (inOrder_good hg) (inOrder_spec hg).2 (fun r e => by cases e)
 refine ⟨h1, fun x => ⟨fun h => (inOrder_spec hg).1.subset (h2 x h).1, fun h => ?_⟩, ?_⟩
 · rcases h3 x ((inOrder_spec hg).1.symm.subset h) with h | h
   · exact h
   · cases h
 · rw [← (inOrder_spec hg).1.length_eq]; exact dd_len _ _
open Classical in
noncomputable def insS (r : IRec) : List IRec → List IRec
 | [] => [r]
 | y :: ys => if od y r < 0 then y :: insS r ys else if y = r then y :: ys else r :: y :: ys
theorem insS_mem (r : IRec) : ∀ (ys : List IRec) (x : IRec), x ∈ insS r ys ↔ x = r ∨ x ∈ ys
 | [], x => by simp [insS]
 | y :: ys, x => by
  unfold insS
  by_cases h : od y r < 0
  · rw [if_pos h]
    simp only [List.mem_cons, insS_mem r ys x]
    constructor
    · rintro (h | h | h) <;> simp [h]
    · rintro (h | h | h) <;> simp [h]
  · rw [if_neg h]
    by_cases c : y = r
    · rw [if_pos c]; simp only [List.mem_cons, c]; constructor
      · rintro (h | h) <;> simp [h]
      · rintro (h | h | h) <;> simp [h]
    · rw [if_neg c]; simp only [List.mem_cons]
theorem insS_strict (r : IRec) (hr : SmR r ∧ gd r = true) : ∀ (ys : List IRec), Goods ys → Strict ys → Strict (insS r ys)
 | [], _, _ => by unfold insS; exact List.pairwise_singleton _ _
 | y :: ys, hg, hs => by
  have hs' := List.pairwise_cons.1 hs
  have hy := hg y (by simp)
  unfold insS
  by_cases h : od y r < 0
  · rw [if_pos h]
    refine List.pairwise_cons.2 ⟨fun z hz => ?_, insS_strict r hr ys (fun z hz => hg z (by simp [hz])) hs'.2⟩
    rcases (insS_mem r ys z).1 hz with rfl | hz
    · exact h
    · exact hs'.1 z hz
  · rw [if_neg h]
    by_cases c : y = r
    · rw [if_pos c]; exact hs
    · rw [if_neg c]
      have hry : od r y < 0 := by
       have h2 := od_neg r y
       by_cases c2 : od r y = 0
       · exact absurd (od_same hr.1 hy.1 hr.2 hy.2 c2).symm c
       · omega
      refine List.pairwise_cons.2 ⟨fun z hz => ?_, hs⟩
      rcases List.mem_cons.1 hz with rfl | hz
      · exact hry
      · exact od_trans hry (hs'.1 z hz)
theorem insS_len (r : IRec) : ∀ ys : List IRec, (insS r ys).length ≤ ys.length + 1
 | [] => by simp [insS]
 | y :: ys => by
  unfold insS
  split
  · have := insS_len r ys; simp only [List.length_cons]; omega
  · split <;> simp only [List.length_cons] <;> omega
noncomputable def insAll (acc : List IRec) (l : List IRec) : List IRec := l.foldl (fun a r => insS r a) acc
theorem insAll_spec : ∀ (l acc : List IRec), Goods l → Goods acc → Strict acc → Strict (insAll acc l) ∧ (∀ x, x ∈ insAll acc l ↔ x ∈ acc ∨ x ∈ l)
 | [], acc, _, _, hs => ⟨hs, fun x => by simp [insAll]⟩
 | r :: l, acc, hg, ha, hs => by
  have hr := hg r (by simp)
  obtain ⟨i1, i2⟩ := insAll_spec l (insS r acc) (fun z hz => hg z (by simp [hz])) (fun z hz => by
   rcases (insS_mem r acc z).1 hz with rfl | hz
   · exact hr
   · exact ha z hz) (insS_strict r hr acc ha hs)
  refine ⟨i1, fun x => ?_⟩
  show x ∈ insAll (insS r acc) l ↔ _
  rw [i2, insS_mem, List.mem_cons]
  constructor
  · rintro ((h | h) | h) <;> simp [h]
  · rintro (h | h | h) <;> simp [h]
theorem insAll_uniq {l : List IRec} (hg : Goods l) : insAll [] l = uniq l := by
 obtain ⟨i1, i2⟩ := insAll_spec l [] hg (fun z hz => by simp at hz) List.Pairwise.nil
 obtain ⟨u1, u2, _⟩ := uniq_spec hg
 exact strict_one _ _ (fun x => by rw [i2, u2]; simp) i1 u1
open Classical in
noncomputable def gstepC (acc : List SSet) (r : IRec) : Option (List SSet) :=
 match acc.getLast? with
 | none => some (acc ++ [new r])
 | some s => if s.f0 = r.f0 ∧ s.f1 = r.f1 then (if s.f2 = r.f2 then (if r.f3 ∈ s.f3 then some acc else some (acc.set (acc.length - 1) ⟨s.f0, s.f1, s.f2, s.f3 ++ [r.f3]⟩)) else none) else some (acc ++ [new r])
noncomputable def gfC : List SSet → List IRec → Option (List SSet)
 | acc, [] => some acc
 | acc, r :: R => (gstepC acc r).bind fun a => gfC a R
def Conn (p : Option IRec) (acc : List SSet) : Prop := (p = none ∧ acc = []) ∨ ∃ r pre s, p = some r ∧ acc = pre ++ [s] ∧ s.f0 = r.f0 ∧ s.f1 = r.f1 ∧ s.f2 = r.f2 ∧ r.f3 ∈ s.f3 ∧ ∀ d ∈ s.f3, (⟨s.f0, s.f1, s.f2, d⟩ : IRec) = r ∨ od ⟨s.f0, s.f1, s.f2, d⟩ r < 0
theorem conn_new (acc : List SSet) (y : IRec) : Conn (some y) (acc ++ [new y]) :=
 .inr ⟨y, acc, new y, rfl, rfl, rfl, rfl, rfl, by simp [new], fun d hd => .inl (by simp only [new, List.mem_singleton] at hd; rw [hd]; cases y; rfl)⟩
open Classical in
theorem gf_dd : ∀ (ys : List IRec) (p : Option IRec) (acc : List SSet), Goods ys → Inline ys → Ahead p ys → Conn p acc → gfC acc ys = gf acc (dd p ys)
 | [], p, acc, _, _, _, _ => by simp [gfC, dd, gf]
 | y :: ys, p, acc, hg, hs, hp, hc => by
  have hg' : Goods ys := fun z hz => hg z (by simp [hz])
  have hs' := (List.pairwise_cons.1 hs).2
  have hnext : ∀ acc', Conn (some y) acc' → gfC acc' ys = gf acc' (dd (some y) ys) := fun acc' h => gf_dd ys (some y) acc' hg' hs' (Ahead.next hg hs) h
  unfold gfC dd
  by_cases c : p = some y
  · rw [if_pos c]
    rcases hc with ⟨h, _⟩ | ⟨r, pre, s, e, rfl, e0, e1, e2, hm, hd⟩
    · rw [h] at c; cases c
    · have er : r = y := by rw [e] at c; exact Option.some.inj c
      subst er
      have : gstepC (pre ++ [s]) r = some (pre ++ [s]) := by
       unfold gstepC
       rw [List.getLast?_append, List.getLast?_singleton]
       show (if s.f0 = r.f0 ∧ s.f1 = r.f1 then (if s.f2 = r.f2 then (if r.f3 ∈ s.f3 then _ else _) else none) else _) = _
       rw [if_pos ⟨e0, e1⟩, if_pos e2, if_pos hm]
      rw [this, Option.bind_some]
      exact gf_dd ys p _ hg' hs' hp.tail (.inr ⟨r, pre, s, e, rfl, e0, e1, e2, hm, hd⟩)
  · rw [if_neg c]
    show _ = (gstep acc y).bind fun a => gf a (dd (some y) ys)
    rcases hc with ⟨_, rfl⟩ | ⟨r, pre, s, e, rfl, e0, e1, e2, hm, hd⟩
    · have h1 : gstepC [] y = some ([] ++ [new y]) := rfl
      have h2 : gstep [] y = some ([] ++ [new y]) := rfl
      rw [h1, h2, Option.bind_some, Option.bind_some]
      exact hnext _ (conn_new [] y)
    · have hlt := hp.lt hg c e
      unfold gstepC gstep
      rw [List.getLast?_append, List.getLast?_singleton]
      show (Option.bind (if s.f0 = y.f0 ∧ s.f1 = y.f1 then (if s.f2 = y.f2 then (if y.f3 ∈ s.f3 then some (pre ++ [s]) else some ((pre ++ [s]).set ((pre ++ [s]).length - 1) ⟨s.f0, s.f1, s.f2, s.f3 ++ [y.f3]⟩)) else none) else some ((pre ++ [s]) ++ [new y])) _) = (Option.bind (if s.f0 = y.f0 ∧ s.f1 = y.f1 then (if s.f2 = y.f2 then some ((pre ++ [s]).set ((pre ++ [s]).length - 1) ⟨s.f0, s.f1, s.f2, s.f3 ++ [y.f3]⟩) else none) else some ((pre ++ [s]) ++ [new y])) _)
      by_cases ck : s.f0 = y.f0 ∧ s.f1 = y.f1
      · rw [if_pos ck, if_pos ck]
        by_cases ct : s.f2 = y.f2
        · have ey : (⟨s.f0, s.f1, s.f2, y.f3⟩ : IRec) = y := by rw [ck.1, ck.2, ct]
          have hn : y.f3 ∉ s.f3 := fun h => by
           rcases hd _ h with h | h
           · rw [ey] at h; rw [← h] at e; exact c e
           · rw [ey] at h; exact (hp r e).2 y (by simp) h
          rw [if_pos ct, if_pos ct, if_neg hn, Option.bind_some, Option.bind_some]
          have hset : (pre ++ [s]).set ((pre ++ [s]).length - 1) (⟨s.f0, s.f1, s.f2, s.f3 ++ [y.f3]⟩ : SSet) = pre ++ [⟨s.f0, s.f1, s.f2, s.f3 ++ [y.f3]⟩] := by simp
          rw [hset]
          refine hnext _ (.inr ⟨y, pre, _, rfl, rfl, ck.1, ck.2, ct, by simp, fun d hd' => ?_⟩)
          rcases List.mem_append.1 hd' with h | h
          · right
            rcases hd d h with h | h
            · show od ⟨s.f0, s.f1, s.f2, d⟩ y < 0
              rw [h]; exact hlt
            · exact od_trans h hlt
          · rw [List.mem_singleton.1 h]; exact .inl ey
        · rw [if_neg ct, if_neg ct]; rfl
      · rw [if_neg ck, if_neg ck, Option.bind_some, Option.bind_some]
        exact hnext _ (conn_new _ y)
theorem gf_uniq {l : List IRec} (hg : Goods l) : gfC [] (inOrder l) = gf [] (uniq l) :=
 gf_dd (inOrder l) none [] (inOrder_good hg) (inOrder_spec hg).2 (fun r e => by cases e) (.inl ⟨rfl, rfl⟩)
end Go.Proofs.YtiegkjimpclmaaaGreatDoor.Pure
namespace Go.Proofs.YtiegkjimpclmaaaGreatDoor.Pure
open Go.Proofs.YtiegkjimpclmaaaGreatDoor.P
theorem areR_true (k : Nat) (L P : List IRec) (n i : Int) : impl_areRising.j1 (k + 1) L P n i true = some false := rfl
theorem areR_false (k : Nat) (L P : List IRec) (n i : Int) : impl_areRising.j1 (k + 1) L P n i false = impl_areRising.l0 k L P n (wrap64 (i + 1)) := rfl
theorem rise_loop (L : List IRec) (hl : L.length < 1099511627776) (hs : ∀ r ∈ L, SmR r) : ∀ (m i : Nat) (p : Option IRec), i + m = L.length → (i = 0 → p = none) → (0 < i → ∀ h : i - 1 < L.length, p = some L[i - 1] ∧ gd L[i - 1] = true) →
 Ev (fun k => impl_areRising.l0 k L L (L.length : Int) (i : Int)) (rise p (L.drop i))
 | 0, i, p, hi, h0, h1 => by
  rw [List.drop_of_length_le (by omega)]
  refine Ev.step (f := fun _ => some true) (fun k => ?_) (Ev.now _)
  show impl_areRising.l0 (k + 1) L L (L.length : Int) (i : Int) = _
  rw [impl_areRising.l0, if_neg (by omega)]
 | m + 1, i, p, hi, h0, h1 => by
  have hlt : i < L.length := by omega
  have hg := (gd_ev L[i] (hs _ (List.getElem_mem hlt))).1
  rw [List.drop_eq_getElem_cons hlt]
  have e0 : ∀ k, impl_areRising.l0 (k + 1) L L (L.length : Int) (i : Int) = (impl_GoodRecord.f k L[i].f0 L[i].f1 L[i].f2 L[i].f3).bind fun t417 => (if t417 = true then (if (i : Int) > 0 then (if 0 ≤ (wrap64 ((i : Int) - 1)) then (if (wrap64 ((i : Int) - 1)) < (L.length : Int) then ((impl_compareRecords.f k ((rd_T45 L (wrap64 ((i : Int) - 1))).f0) ((rd_T45 L (wrap64 ((i : Int) - 1))).f1) ((rd_T45 L (wrap64 ((i : Int) - 1))).f2) ((rd_T45 L (wrap64 ((i : Int) - 1))).f3) L[i].f0 L[i].f1 L[i].f2 L[i].f3).bind fun t419 => (impl_areRising.j1 k L L (L.length : Int) (i : Int) (decide (t419 ≥ 0)))) else (none)) else (none)) else (impl_areRising.j1 k L L (L.length : Int) (i : Int) false)) else (impl_areRising.j1 k L L (L.length : Int) (i : Int) true)) := fun k => by
   rw [impl_areRising.l0, if_pos (by omega), if_pos (by omega), if_pos (by omega), rdI L i hlt]
  refine Ev.step e0 (Ev.bind hg ?_)
  cases hgd : gd L[i] with
  | false =>
   simp only [Bool.false_eq_true, if_false, rise, hgd, Bool.false_and]
   exact Ev.step (f := fun _ => some false) (fun k => areR_true ..) (Ev.now _)
  | true =>
   have ih := rise_loop L hl hs m (i + 1) (some L[i]) (by omega) (fun h => absurd h (by omega)) (fun _ h => ⟨by simp, by simpa using hgd⟩)
   have hj : Ev (fun k => impl_areRising.j1 k L L (L.length : Int) (i : Int) false) (rise (some L[i]) (L.drop (i + 1))) := by
    refine Ev.step (fun k => ?_) ih
    rw [areR_false, w64n (by omega)]
   simp only [if_true, rise, hgd, Bool.true_and]
   by_cases hz : i = 0
   · rw [h0 hz]
     simp only [if_neg (show ¬ (i : Int) > 0 by omega), Option.all_none, Bool.true_and]
     exact hj
   · obtain ⟨hp, hq⟩ := h1 (by omega) (by omega)
     rw [hp]
     have hi1 : i - 1 < L.length := by omega
     simp only [if_pos (show (i : Int) > 0 by omega), w64p (show 0 < i by omega) (by omega), if_pos (show (0 : Int) ≤ ((i - 1 : Nat) : Int) by omega), if_pos (show ((i - 1 : Nat) : Int) < (L.length : Int) by omega), rdI L (i - 1) hi1, Option.all_some]
     refine Ev.bind (od_ev (hs _ (List.getElem_mem hi1)) (hs _ (List.getElem_mem hlt)) hq hgd).1 ?_
     by_cases ho : od L[i - 1] L[i] < 0
     · rw [decide_eq_true ho, Bool.true_and]
       simp only [decide_eq_false (show ¬ od L[i - 1] L[i] ≥ 0 by omega)]
       exact hj
     · rw [decide_eq_false ho, Bool.false_and]
       simp only [decide_eq_true (show od L[i - 1] L[i] ≥ 0 by omega)]
       exact Ev.step (f := fun _ => some false) (fun k => areR_true ..) (Ev.now _)
theorem rise_ev (L : List IRec) (hl : L.length < 1099511627776) (hs : ∀ r ∈ L, SmR r) : Ev (fun k => impl_areRising.f k L) (rise none L) :=
 Ev.congr (fun k => rfl) (rise_loop L hl hs L.length 0 none (by omega) (fun _ => rfl) (fun h => absurd h (by omega)))
def badR : List IRec × Bool := ([], false)
def valR (all : List IRec) (b : Bool) : List IRec × Bool := if b = true then (all, true) else badR
theorem recs_small {s : SSet} (h : SmS s) : ∀ r ∈ recsOf s, SmR r := by
 intro r hr
 unfold recsOf recs at hr
 obtain ⟨d, hd, rfl⟩ := List.mem_map.1 hr
 exact ⟨h.1, h.2 d hd⟩
theorem recs_get (a : ByteArray) (b c : Int) (ds : List ByteArray) (j : Nat) (h : j < ds.length) : (recs a b c ds).take (j + 1) = (recs a b c ds).take j ++ [⟨a, b, c, ds[j]⟩] := by
 rw [List.take_succ_eq_append_getElem (by rw [recs_len]; exact h)]
 simp [recs]
theorem in_loop (l : List SSet) (acc : List IRec) (i : Nat) (a : ByteArray) (b c : Int) (ds : List ByteArray) (R : List IRec × Bool) (hb : acc.length + ds.length < 1099511627776)
 (hR : Ev (fun k => (impl_areRising.f k (recs a b c ds)).bind fun t437 => (if t437 = true then (impl_RecordsOf.l0 k l (acc ++ recs a b c ds) l (l.length : Int) (wrap64 ((i : Int) + 1))) else (some (([] : List IRec), false)))) R) :
 ∀ (m j : Nat), j + m = ds.length → Ev (fun k => impl_RecordsOf.l1 k l (acc ++ (recs a b c ds).take j) (acc.length : Int) l (l.length : Int) (i : Int) ds (ds.length : Int) (j : Int) a b c ds) R
 | 0, j, hj => by
  refine Ev.step (fun k => ?_) hR
  rw [List.take_of_length_le (by rw [recs_len]; omega), impl_RecordsOf.l1, if_neg (by omega), if_pos (by omega), if_pos (by rw [List.length_append]; omega), Int.toNat_natCast, List.drop_left]
 | m + 1, j, hj => by
  have hlt : j < ds.length := by omega
  refine Ev.step (fun k => ?_) (in_loop l acc i a b c ds R hb hR m (j + 1) (by omega))
  have hlen : ((recs a b c ds).take j).length ≤ j := by rw [List.length_take]; omega
  rw [impl_RecordsOf.l1, if_pos (by omega), if_pos (by omega), if_pos (by omega), if_pos (by rw [List.length_append]; omega), show rdOf ByteArray.empty ds (j : Int) = ds[j] from mS_rd ds j hlt, w64n (by omega), recs_get a b c ds j hlt, List.append_assoc]
theorem iv_loop (l : List SSet) (hl : l.length + cntS l ≤ 1048576) (hs : ∀ s ∈ l, SmS s) : ∀ (m i : Nat) (acc : List IRec) (p : Option SSet), i + m = l.length → acc ++ (l.drop i).flatMap recsOf = l.flatMap recsOf → (i = 0 → p = none) → (0 < i → ∀ h : i - 1 < l.length, p = some l[i - 1]) →
 Ev (fun k => impl_RecordsOf.l0 k l acc l (l.length : Int) (i : Int)) (valR (l.flatMap recsOf) (iv p acc.length (l.drop i)))
 | 0, i, acc, p, hi, ha, h0, h1 => by
  rw [List.drop_of_length_le (by omega)] at ha ⊢
  simp only [List.flatMap_nil, List.append_nil] at ha
  refine Ev.step (f := fun _ => some (acc, true)) (fun k => ?_) ?_
  · show impl_RecordsOf.l0 (k + 1) l acc l (l.length : Int) (i : Int) = _
    rw [impl_RecordsOf.l0, if_neg (by omega)]
  · rw [ha]; exact Ev.now _
 | m + 1, i, acc, p, hi, ha, h0, h1 => by
  have hlt : i < l.length := by omega
  have hm : l[i] ∈ l := List.getElem_mem hlt
  have hd := List.drop_eq_getElem_cons hlt
  have hlen : acc.length + (l[i].f3.length + cntS (l.drop (i + 1))) = cntS l := by
   have := congrArg List.length ha
   rw [List.length_append, flat_len, flat_len, hd, cntS_cons] at this
   exact this
  have bad : Ev (fun k => impl_RecordsOf.j1 k l acc l (l.length : Int) (i : Int) true l[i].f0 l[i].f1 l[i].f2 l[i].f3) badR :=
   Ev.step (f := fun _ => some badR) (fun k => rfl) (Ev.now _)
  have good : Ev (fun k => impl_RecordsOf.j1 k l acc l (l.length : Int) (i : Int) false l[i].f0 l[i].f1 l[i].f2 l[i].f3) (valR (l.flatMap recsOf) (rise none (recsOf l[i]) && iv (some l[i]) (acc.length + l[i].f3.length) (l.drop (i + 1)))) := by
   have hr := rise_ev (recsOf l[i]) (by unfold recsOf; rw [recs_len]; omega) (recs_small (hs _ hm))
   have ih := iv_loop l hl hs m (i + 1) (acc ++ recsOf l[i]) (some l[i]) (by omega) (by rw [← ha, hd, List.flatMap_cons, List.append_assoc]) (fun h => absurd h (by omega)) (fun _ h => by simp)
   rw [List.length_append, show (recsOf l[i]).length = l[i].f3.length by unfold recsOf; rw [recs_len]] at ih
   refine Ev.step (f := fun k => impl_RecordsOf.l1 k l acc (acc.length : Int) l (l.length : Int) (i : Int) l[i].f3 (l[i].f3.length : Int) 0 l[i].f0 l[i].f1 l[i].f2 l[i].f3) (fun k => rfl) ?_
   have := in_loop l acc i l[i].f0 l[i].f1 l[i].f2 l[i].f3 (valR (l.flatMap recsOf) (rise none (recsOf l[i]) && iv (some l[i]) (acc.length + l[i].f3.length) (l.drop (i + 1)))) (by omega) (Ev.bind hr ?_) l[i].f3.length 0 (by omega)
   · rw [List.take_zero, List.append_nil] at this; exact this
   · cases hrr : rise none (recsOf l[i]) with
     | false => simp only [Bool.false_eq_true, if_false, Bool.false_and]; exact Ev.now _
     | true =>
      simp only [if_true, Bool.true_and, w64n (show i < 4611686018427387904 by omega)]
      exact ih
  rw [hd]
  have e0 := fun k => show impl_RecordsOf.l0 (k + 1) l acc l (l.length : Int) (i : Int) = _ by
   rw [impl_RecordsOf.l0, if_pos (by omega), if_pos (by omega), if_pos (by omega), rdSS l i hlt]
  refine Ev.step e0 ?_
  unfold iv
  by_cases hz : l[i].f3 = []
  · simp only [hz, List.length_nil, List.isEmpty_nil, Bool.not_true, Bool.false_and]
    rw [hz] at bad
    exact bad
  · have hpos : 0 < l[i].f3.length := List.length_pos_iff.2 hz
    have he : (!l[i].f3.isEmpty) = true := by simp [hz]
    rw [he, Bool.true_and]
    have hw : wrap64 ((acc.length : Int) + (l[i].f3.length : Int)) = (acc.length : Int) + (l[i].f3.length : Int) := by unfold wrap64; omega
    simp only [if_neg (show ¬ ((l[i].f3.length : Int) = 0) by omega), hw]
    by_cases hc : acc.length + l[i].f3.length ≤ 60
    · simp only [if_neg (show ¬ ((acc.length : Int) + (l[i].f3.length : Int) > 60) by omega), decide_eq_true hc, Bool.true_and]
      by_cases hi0 : i = 0
      · simp only [h0 hi0, if_neg (show ¬ (i : Int) > 0 by omega), Option.all_none, Bool.true_and]
        exact good
      · have hi1 : i - 1 < l.length := by omega
        have hp := h1 (by omega) hi1
        simp only [if_pos (show (i : Int) > 0 by omega), w64p (show 0 < i by omega) (by omega), if_pos (show (0 : Int) ≤ ((i - 1 : Nat) : Int) by omega), if_pos (show ((i - 1 : Nat) : Int) < (l.length : Int) by omega), rdSS l (i - 1) hi1, hp, Option.all_some]
        have hk : Ev (fun k => impl_compareKeys.f k l[i - 1].f0 l[i - 1].f1 0 (⟨#[]⟩ : ByteArray) l[i].f0 l[i].f1 0 (⟨#[]⟩ : ByteArray)) (kd l[i - 1] l[i]) := by
         refine Ev.congr (fun k => rfl) (Ev.bind (implComp_ev _ _ (hs _ (List.getElem_mem hi1)).1 (hs _ hm).1) ?_)
         simp only [cmpI_eq, Option.bind_some]
         exact Ev.bind (or_two _ _) (Ev.now _)
        refine Ev.bind hk ?_
        by_cases ho : kd l[i - 1] l[i] < 0
        · rw [decide_eq_true ho, Bool.true_and]
          simp only [decide_eq_false (show ¬ kd l[i - 1] l[i] ≥ 0 by omega)]
          exact good
        · rw [decide_eq_false ho, Bool.false_and]
          simp only [decide_eq_true (show kd l[i - 1] l[i] ≥ 0 by omega)]
          exact bad
    · simp only [if_pos (show ((acc.length : Int) + (l[i].f3.length : Int) > 60) by omega), decide_eq_false hc, Bool.false_and]
      exact bad
theorem implRO_ev (l : List SSet) (hl : l.length + cntS l ≤ 1048576) (hs : ∀ s ∈ l, SmS s) : Ev (fun k => impl_RecordsOf.f k l) (valR (l.flatMap recsOf) (decide (l.length ≤ 40) && iv none 0 l)) := by
 by_cases hc : l.length ≤ 40
 · rw [decide_eq_true hc, Bool.true_and]
   refine Ev.congr (fun k => ?_) (iv_loop l hl hs l.length 0 [] none (by omega) (by simp) (fun _ => rfl) (fun h => absurd h (by omega)))
   unfold impl_RecordsOf.f
   rw [if_neg (by omega)]
   rfl
 · rw [decide_eq_false hc, Bool.false_and]
   refine Ev.congr (f := fun _ => some badR) (fun k => ?_) (Ev.now _)
   unfold impl_RecordsOf.f
   rw [if_pos (by omega)]
   rfl
end Go.Proofs.YtiegkjimpclmaaaGreatDoor.Pure
namespace Go.Proofs.YtiegkjimpclmaaaGreatDoor.P
open Go.Shelf Go.Sort
abbrev GR := {x : IR // Pure.SmR x ∧ Pure.gd x = true}
def encG (x : GR) : List Value := cellsR x.1
noncomputable def ordG (x y : GR) : Int := Pure.od x.1 y.1
theorem lt_g (x y : GR) : ltOf ordG x y = decide (Pure.od x.1 y.1 < 0) := rfl
theorem partsG (x y : GR) (h : ltOf ordG x y = false) (h' : ltOf ordG y x = false) : x = y := by
  rw [lt_g] at h h'
  have h1 := of_decide_eq_false h
  have h2 := of_decide_eq_false h'
  have h3 := Pure.od_neg x.1 y.1
  exact Subtype.ext (Pure.od_same x.2.1 y.2.1 x.2.2 y.2.2 (by omega))
theorem swoG : SWO (ltOf ordG) where
  irrefl x := by
    rw [lt_g]
    have := Pure.od_neg x.1 x.1
    exact decide_eq_false (by omega)
  trans x y z h h' := by
    rw [lt_g] at *
    exact decide_eq_true (Pure.od_trans (of_decide_eq_true h) (of_decide_eq_true h'))
  ntrans x y z h h' := by
    by_cases c : ltOf ordG y x = true
    · by_cases d : ltOf ordG z y = true
      · rw [lt_g] at *
        have h1 := Pure.od_trans (of_decide_eq_true d) (of_decide_eq_true c)
        have h2 := Pure.od_neg x.1 z.1
        exact decide_eq_false (by omega)
      · have := partsG y z h' (by simpa using d)
        rw [← this]; exact h
    · have := partsG x y h (by simpa using c)
      rw [this]; exact h'
theorem cmp_lays [Inhabited GR] (W0 W : World) (g n : Nat) (hv : Vars W0) (hB : ∀ m os (dk : Array GR), Go.RowKit.Below W0.heap.size W0 (sortWorldK encG 4 W g 0 m dk os)) : CmpLays Tryz.prog 77 #[] encG 4 ordG g 0 n W := by
  intro m os dk hs x y
  obtain ⟨K, hK⟩ := (Pure.od_ev x.2.1 y.2.1 x.2.2 y.2.2).1
  have h := hK K (Nat.le_refl _)
  rw [Array.append_empty]
  have hc := impl_compareRecords.calls K _ _ _ _ _ _ _ _ _ (sortWorldK encG 4 W g 0 m dk os) h (Vars.below hv (hB m os dk))
  refine (Dr.calls_up hc).mono ?_
  rintro e w' ⟨rfl, hb, hd⟩
  exact ⟨rfl, Dr.below_grow hb hd⟩
end Go.Proofs.YtiegkjimpclmaaaGreatDoor.P
namespace Go.Proofs.YtiegkjimpclmaaaGreatDoor.Pure
open Go.Proofs.YtiegkjimpclmaaaGreatDoor.P
theorem j3_t (k : Nat) (x : List IRec) : spec_RecordsOf.j3 (k + 1) x true = some (([] : List IRec), false) := rfl
theorem j3_f (k : Nat) (x : List IRec) : spec_RecordsOf.j3 (k + 1) x false = some (x, true) := rfl
theorem j3_ev (x : List IRec) (b : Bool) : Ev (fun k => spec_RecordsOf.j3 k x b) (valR x (!b)) := by
 cases b
 · exact Ev.step (f := fun _ => some (x, true)) (fun k => j3_f k x) (Ev.now _)
 · exact Ev.step (f := fun _ => some badR) (fun k => j3_t k x) (Ev.now _)
theorem j2_t (k : Nat) (l : List SSet) (x4 : List IRec) (n i : Int) (ds : List ByteArray) (u j : Int) (a : ByteArray) (b c : Int) (d3 : List ByteArray) (a' : ByteArray) (b' c' : Int) (d' : ByteArray) : spec_RecordsOf.j2 (k + 1) l x4 l n i ds u j true a b c d3 a' b' c' d' = some (([] : List IRec), false) := rfl
theorem j2_f (k : Nat) (l : List SSet) (x4 : List IRec) (n i : Int) (ds : List ByteArray) (u j : Int) (a : ByteArray) (b c : Int) (d3 : List ByteArray) (a' : ByteArray) (b' c' : Int) (d' : ByteArray) : spec_RecordsOf.j2 (k + 1) l x4 l n i ds u j false a b c d3 a' b' c' d' = (if x4.length < 2932031007402 then (spec_RecordsOf.l1 k l (x4 ++ [(⟨a', b', c', d'⟩ : IRec)]) l n i ds u (wrap64 (j + 1)) a b c d3) else (none)) := rfl
theorem sin_loop (l : List SSet) (i : Nat) (a : ByteArray) (b c : Int) (ds : List ByteArray) (R : List IRec × Bool) (hds : ds.length < 1099511627776) (ha : Small a) (hs : ∀ z ∈ ds, Small z) : ∀ (m j : Nat) (acc : List IRec), j + m = ds.length → acc.length + m < 1099511627776 → (∀ q, acc.getLast? = some q → gd q = true ∧ SmR q) →
 (rise acc.getLast? (recs a b c (ds.drop j)) = true → Ev (fun k => spec_RecordsOf.l0 k l (acc ++ recs a b c (ds.drop j)) l (l.length : Int) (wrap64 ((i : Int) + 1))) R) →
 Ev (fun k => spec_RecordsOf.l1 k l acc l (l.length : Int) (i : Int) ds (ds.length : Int) (j : Int) a b c ds) (if rise acc.getLast? (recs a b c (ds.drop j)) = true then R else badR)
 | 0, j, acc, hj, hb, hg, hR => by
  rw [List.drop_of_length_le (by omega)] at hR ⊢
  have hr : rise acc.getLast? (recs a b c []) = true := by simp [recs, rise]
  rw [if_pos hr]
  refine Ev.step (fun k => ?_) (hR hr)
  rw [spec_RecordsOf.l1, if_neg (by omega)]
  simp [recs]
 | m + 1, j, acc, hj, hb, hg, hR => by
  have hlt : j < ds.length := by omega
  have hsm : SmR (⟨a, b, c, ds[j]⟩ : IRec) := ⟨ha, hs _ (List.getElem_mem hlt)⟩
  have hd : recs a b c (ds.drop j) = (⟨a, b, c, ds[j]⟩ : IRec) :: recs a b c (ds.drop (j + 1)) := by rw [List.drop_eq_getElem_cons hlt]; rfl
  rw [hd] at hR ⊢
  have hrd : rdOf ByteArray.empty ds (j : Int) = ds[j] := mS_rd ds j hlt
  have e0 := fun k => show spec_RecordsOf.l1 (k + 1) l acc l (l.length : Int) (i : Int) ds (ds.length : Int) (j : Int) a b c ds = _ by
   rw [spec_RecordsOf.l1, if_pos (by omega), if_pos (by omega), if_pos (by omega), hrd]
  refine Ev.step e0 (Ev.bind (gd_ev _ hsm).2 ?_)
  cases hgd : gd (⟨a, b, c, ds[j]⟩ : IRec) with
  | false =>
   simp only [rise, hgd, Bool.false_and, Bool.false_eq_true, if_false]
   exact Ev.now _
  | true =>
   simp only [rise, hgd, Bool.true_and, if_true] at hR ⊢
   have hgo : acc.getLast?.all (fun q => decide (od q (⟨a, b, c, ds[j]⟩ : IRec) < 0)) = true → Ev (fun k => spec_RecordsOf.j2 k l acc l (l.length : Int) (i : Int) ds (ds.length : Int) (j : Int) false a b c ds a b c ds[j]) (if rise (some (⟨a, b, c, ds[j]⟩ : IRec)) (recs a b c (ds.drop (j + 1))) = true then R else badR) := by
    intro ho
    have hlast : (acc ++ [(⟨a, b, c, ds[j]⟩ : IRec)]).getLast? = some (⟨a, b, c, ds[j]⟩ : IRec) := by simp
    have ih := sin_loop l i a b c ds R hds ha hs m (j + 1) (acc ++ [(⟨a, b, c, ds[j]⟩ : IRec)]) (by omega) (by simp; omega) (fun q hq => by rw [hlast] at hq; cases hq; exact ⟨hgd, hsm⟩) (fun h => by
     rw [hlast] at h
     rw [List.append_assoc]
     exact hR (by rw [ho, h]; rfl))
    rw [hlast] at ih
    refine Ev.step (fun k => ?_) ih
    rw [j2_f, if_pos (by omega), w64n (by omega)]
   rcases List.eq_nil_or_concat acc with rfl | ⟨pre, q, rfl⟩
   · simp only [List.length_nil, if_neg (show ¬ (((0 : Nat) : Int) > 0) by omega), List.getLast?_nil, Option.all_none, Bool.true_and] at hgo ⊢
     exact hgo trivial
   · rw [List.concat_eq_append] at *
     have hlen : (pre ++ [q]).length = pre.length + 1 := by simp
     have hww : wrap64 (((pre ++ [q]).length : Int) - 1) = (pre.length : Int) := by rw [hlen, w64p (by omega) (by omega)]; rfl
     have hrq : rd_T45 (pre ++ [q]) (pre.length : Int) = q := by rw [rdI _ _ (by omega)]; simp
     have hlast : (pre ++ [q]).getLast? = some q := by simp
     obtain ⟨hq1, hq2⟩ := hg q hlast
     simp only [hww, hrq, if_pos (show ((pre ++ [q]).length : Int) > 0 by omega), if_pos (show (0 : Int) ≤ (pre.length : Int) by omega), if_pos (show (pre.length : Int) < ((pre ++ [q]).length : Int) by omega)]
     refine Ev.bind (od_ev hq2 hsm hq1 hgd).2 ?_
     by_cases ho : od q (⟨a, b, c, ds[j]⟩ : IRec) < 0
     · have hall : (pre ++ [q]).getLast?.all (fun q => decide (od q (⟨a, b, c, ds[j]⟩ : IRec) < 0)) = true := by rw [hlast]; exact decide_eq_true ho
       simp only [decide_eq_false (show ¬ od q (⟨a, b, c, ds[j]⟩ : IRec) ≥ 0 by omega), hall, Bool.true_and]
       exact hgo hall
     · have hall : (pre ++ [q]).getLast?.all (fun q => decide (od q (⟨a, b, c, ds[j]⟩ : IRec) < 0)) = false := by rw [hlast]; exact decide_eq_false ho
       simp only [decide_eq_true (show od q (⟨a, b, c, ds[j]⟩ : IRec) ≥ 0 by omega), hall, Bool.false_and, Bool.false_eq_true, if_false]
       exact Ev.step (f := fun _ => some badR) (fun k => j2_t ..) (Ev.now _)
def fin (l : List SSet) (all : List IRec) : Bool := (valG (gf [] all)).2 && (decide (all.length ≤ 60) && decide ((valG (gf [] all)).1.length = l.length))
theorem rise_last : ∀ (R : List IRec) (p : Option IRec), rise p R = true → ∀ r ∈ R, gd r = true
 | [], _, _, r, hr => by cases hr
 | x :: R, p, h, r, hr => by
  simp only [rise, Bool.and_eq_true] at h
  rcases List.mem_cons.1 hr with rfl | hr
  · exact h.1
  · exact rise_last R _ h.2.2 r hr
theorem sv_loop (l : List SSet) (hl : l.length + cntS l ≤ 1048576) (hs : ∀ s ∈ l, SmS s) : ∀ (m i : Nat) (acc : List IRec), i + m = l.length → acc ++ (l.drop i).flatMap recsOf = l.flatMap recsOf → (∀ q, acc.getLast? = some q → gd q = true ∧ SmR q) →
 Ev (fun k => spec_RecordsOf.l0 k l acc l (l.length : Int) (i : Int)) (valR (l.flatMap recsOf) (sv acc.getLast? (l.drop i) && fin l (l.flatMap recsOf)))
 | 0, i, acc, hi, ha, hg => by
  rw [List.drop_of_length_le (by omega)] at ha ⊢
  simp only [List.flatMap_nil, List.append_nil] at ha
  subst ha
  have hfl := flat_len l
  have e0 := fun k => show spec_RecordsOf.l0 (k + 1) l (l.flatMap recsOf) l (l.length : Int) (i : Int) = _ by
   rw [spec_RecordsOf.l0, if_neg (by omega)]
  refine Ev.step e0 (Ev.bind (l3_ev (l.flatMap recsOf) (by omega)) ?_)
  simp only [sv, Bool.true_and, fin]
  cases hv : (valG (gf [] (l.flatMap recsOf))).2 with
  | false =>
   simp only [Bool.false_eq_true, if_false, Bool.false_and]
   exact j3_ev _ true
  | true =>
   simp only [if_true, Bool.true_and]
   by_cases hc : (l.flatMap recsOf).length ≤ 60
   · simp only [if_neg (show ¬ ((l.flatMap recsOf).length : Int) > 60 by omega), decide_eq_true hc, Bool.true_and]
     have e : decide ((valG (gf [] (l.flatMap recsOf))).1.length = l.length) = !(((valG (gf [] (l.flatMap recsOf))).1.length : Int) != (l.length : Int)) := by
      rw [bne, Bool.not_not]
      by_cases h : (valG (gf [] (l.flatMap recsOf))).1.length = l.length
      · rw [decide_eq_true h, h, beq_self_eq_true]
      · rw [decide_eq_false h, beq_eq_false_iff_ne.2 (by omega)]
     rw [e]
     exact j3_ev _ _
   · simp only [if_pos (show ((l.flatMap recsOf).length : Int) > 60 by omega), decide_eq_false hc, Bool.false_and]
     exact j3_ev _ true
 | m + 1, i, acc, hi, ha, hg => by
  have hlt : i < l.length := by omega
  have hm : l[i] ∈ l := List.getElem_mem hlt
  have hd := List.drop_eq_getElem_cons hlt
  have hlen : acc.length + (l[i].f3.length + cntS (l.drop (i + 1))) = cntS l := by
   have := congrArg List.length ha
   rw [List.length_append, flat_len, flat_len, hd, cntS_cons] at this
   exact this
  rw [hd]
  have e0 := fun k => show spec_RecordsOf.l0 (k + 1) l acc l (l.length : Int) (i : Int) = _ by
   rw [spec_RecordsOf.l0, if_pos (by omega), if_pos (by omega), if_pos (by omega), rdSS l i hlt]
  refine Ev.step e0 ?_
  unfold sv
  by_cases hz : l[i].f3 = []
  · simp only [hz, List.length_nil, List.isEmpty_nil, Bool.not_true, Bool.false_and]
    exact Ev.now _
  · have hpos : 0 < l[i].f3.length := List.length_pos_iff.2 hz
    have he : (!l[i].f3.isEmpty) = true := by simp [hz]
    rw [he, Bool.true_and]
    simp only [if_neg (show ¬ ((l[i].f3.length : Int) = 0) by omega)]
    have hlast : (acc ++ recsOf l[i]).getLast? = (recsOf l[i]).getLast? := by
     rw [List.getLast?_append]
     rcases link_last l[i] hz with ⟨h, _⟩ | ⟨_, r, _, h, _⟩
     · cases h
     · rw [h]; rfl
    have hin := sin_loop l i l[i].f0 l[i].f1 l[i].f2 l[i].f3 (valR (l.flatMap recsOf) (sv (recsOf l[i]).getLast? (l.drop (i + 1)) && fin l (l.flatMap recsOf))) (by omega) (hs _ hm).1 (hs _ hm).2 l[i].f3.length 0 acc (by omega) (by omega) hg (fun hr => by
     rw [List.drop_zero] at hr ⊢
     have ih := sv_loop l hl hs m (i + 1) (acc ++ recsOf l[i]) (by omega) (by rw [← ha, hd, List.flatMap_cons, List.append_assoc]) (fun q hq => by
      rw [hlast] at hq
      have hq := List.mem_of_getLast? hq
      exact ⟨rise_last _ _ hr q hq, recs_small (hs _ hm) q hq⟩)
     rw [hlast] at ih
     rw [w64n (by omega)]
     exact ih)
    rw [List.drop_zero] at hin
    have e : valR (l.flatMap recsOf) ((rise acc.getLast? (recsOf l[i]) && sv (recsOf l[i]).getLast? (l.drop (i + 1))) && fin l (l.flatMap recsOf)) = (if rise acc.getLast? (recs l[i].f0 l[i].f1 l[i].f2 l[i].f3) = true then valR (l.flatMap recsOf) (sv (recsOf l[i]).getLast? (l.drop (i + 1)) && fin l (l.flatMap recsOf)) else badR) := by
     show valR _ ((rise acc.getLast? (recs l[i].f0 l[i].f1 l[i].f2 l[i].f3) && _) && _) = _
     cases rise acc.getLast? (recs l[i].f0 l[i].f1 l[i].f2 l[i].f3) with
     | false => rfl
     | true => rfl
    rw [e]
    exact hin
theorem specRO_ev (l : List SSet) (hl : l.length + cntS l ≤ 1048576) (hs : ∀ s ∈ l, SmS s) : Ev (fun k => spec_RecordsOf.f k l) (valR (l.flatMap recsOf) (sv none l && fin l (l.flatMap recsOf))) :=
 Ev.congr (fun k => rfl) (sv_loop l hl hs l.length 0 [] (by omega) (by simp) (fun q h => by cases h))
theorem tests_one (l : List SSet) : (decide (l.length ≤ 40) && iv none 0 l) = (sv none l && fin l (l.flatMap recsOf)) := by
 rw [Bool.eq_iff_iff]
 simp only [Bool.and_eq_true, decide_eq_true_eq, fin, flat_len]
 rw [iv_sv l none none 0 (Or.inl ⟨rfl, rfl⟩) (by omega)]
 constructor
 · rintro ⟨h40, h1, h2, h3⟩
   have hg := gf_all l [] (sv_full l none h1) h2
   rw [List.nil_append] at hg
   rw [hg]
   exact ⟨h1, decide_eq_true (by omega), by omega, rfl⟩
 · rintro ⟨h1, h2, h3, h4⟩
   cases hg : gf [] (l.flatMap recsOf) with
   | none => rw [hg] at h2; cases h2
   | some S =>
    rw [hg] at h2 h4
    have h2 : decide ((S.length : Int) ≤ 40) = true := h2
    have h4 : S.length = l.length := h4
    have h2 := of_decide_eq_true h2
    exact ⟨by omega, h1, (gf_len l [] S (sv_full l none h1) hg).2 (by simp [h4]), by omega⟩
theorem recsOf_both (l : List SSet) (hl : l.length + cntS l ≤ 1048576) (hs : ∀ s ∈ l, SmS s) : ∃ r b, Ev (fun k => spec_RecordsOf.f k l) (r, b) ∧ Ev (fun k => impl_RecordsOf.f k l) (r, b) ∧ r.length ≤ 1048576 := by
 have h1 := specRO_ev l hl hs
 have h2 := implRO_ev l hl hs
 rw [tests_one] at h2
 have hfl := flat_len l
 generalize (sv none l && fin l (l.flatMap recsOf)) = b at h1 h2
 cases b with
 | false => exact ⟨[], false, h1, h2, by simp⟩
 | true => exact ⟨l.flatMap recsOf, true, h1, h2, by omega⟩
end Go.Proofs.YtiegkjimpclmaaaGreatDoor.Pure
namespace Go.Proofs.YtiegkjimpclmaaaGreatDoor.P
open Go.Shelf Go.Sort
theorem flat_len4 : ∀ l : List IR, (l.flatMap cellsR).length = l.length * 4
  | [] => rfl
  | x :: l => by rw [List.flatMap_cons, List.length_append, flat_len4 l, List.length_cons]; simp [cellsR]; omega
theorem flat_get : ∀ (l : List IR) (t : Nat) (h : t / 4 < l.length), (l.flatMap cellsR)[t]? = (cellsR l[t / 4])[t % 4]?
  | [], t, h => by simp at h
  | x :: l, t, h => by
    rw [List.flatMap_cons]
    by_cases c : t < 4
    · have e : t / 4 = 0 := by omega
      have e2 : t % 4 = t := by omega
      rw [List.getElem?_append_left (by simpa [cellsR] using c)]
      simp only [e, e2, List.getElem_cons_zero]
    · have e : t / 4 = (t - 4) / 4 + 1 := by omega
      have e2 : t % 4 = (t - 4) % 4 := by omega
      have h' : (t - 4) / 4 < l.length := by rw [List.length_cons] at h; omega
      rw [List.getElem?_append_right (by simp [cellsR]; omega), show (cellsR x).length = 4 from rfl, flat_get l (t - 4) h']
      simp only [e, e2, List.getElem_cons_succ]
theorem holdsG [Inhabited GR] {W : World} {g : Nat} {cur : Array Value} {e : TypeId} (dn : List GR) (hb : W.heap[g]? = some (.cells cur e (0, 0))) (ht : cur.toList.take (dn.length * 4) = (dn.map Subtype.val).flatMap cellsR) : HoldsK encG 4 W g 0 dn.toArray := by
  intro j hj
  rw [size_flatK, List.size_toArray] at hj
  refine ⟨?_, by simp [World.frozen?, hb]⟩
  rw [Nat.zero_add, blk_cell hb j, get_flatK encG 4 dn.toArray j (by simpa using hj)]
  have hj4 : j / 4 < dn.length := by omega
  have h1 : (cur.toList.take (dn.length * 4))[j]? = cur[j]? := by rw [List.getElem?_take, if_pos hj, Array.getElem?_toList]
  rw [← h1, ht, flat_get _ j (by rw [List.length_map]; exact hj4)]
  have e1 : dn.toArray[j / 4]! = dn[j / 4] := by rw [getElem!_pos _ _ (by simpa using hj4)]; simp
  have hl : (cellsR dn[j / 4].1).length = 4 := rfl
  rw [e1, List.getElem_map, List.getElem?_eq_getElem (by rw [hl]; omega)]
  show some _ = some ((cellsR dn[j / 4].1)[j % 4]!)
  rw [getElem!_pos (cellsR dn[j / 4].1) (j % 4) (by rw [hl]; omega)]
theorem below_sortW [Inhabited GR] {B : Nat} {w0 w : World} {g : Nat} (h : Go.RowKit.Below B w0 w) (hg : B ≤ g) (hw : B ≤ w.heap.size) (m : Nat) (dk : Array GR) (os : Array Obj) : Go.RowKit.Below B w0 (sortWorldK encG 4 w g 0 m dk os) := by
  have h1 : Go.RowKit.Below B w0 (putRowK encG 4 (Sort.ahead w m) g 0 dk) := Go.Lib.below_putRow h hg
  refine ⟨h1.os, h1.tape, h1.output, ?_, fun k hk => ?_⟩
  · have := h1.size
    simp only [sortWorldK, grow, Array.size_append]
    omega
  · rw [← h1.block k hk]
    have hs : k < (putRowK encG 4 (Sort.ahead w m) g 0 dk).heap.size := by
      have : (putRowK encG 4 (Sort.ahead w m) g 0 dk).heap.size = w.heap.size := by simp [putRowK, putRow, mapBlock, Sort.ahead]
      omega
    simp only [sortWorldK, grow]
    exact Array.getElem?_append_left hs
theorem sort_own (W0 W : World) (g cap : Nat) (cur : Array Value) (xs : List IR) (hg : ∀ x ∈ xs, Pure.SmR x ∧ Pure.gd x = true) (hl : xs.length ≤ 60) (hne : xs ≠ []) (hv : Vars W0) (hB : Go.RowKit.Below W0.heap.size W0 W) (hg0 : W0.heap.size ≤ g) (hb : W.heap[g]? = some (.cells cur 45 (0, 0))) (ht : cur.toList.take (xs.length * 4) = xs.flatMap cellsR) :
    ∃ ys : List IR, ys.Perm xs ∧ ys.Pairwise (fun x y => ¬ Pure.od y x < 0) ∧ ys.length = xs.length ∧
    Calls Tryz.prog 138 #[.slice (some ⟨g, 0, none⟩) xs.length cap, .func (.func 77) #[] #[]] W fun e w' => e = .returned (.tuple #[]) ∧ Go.RowKit.Below W0.heap.size W w' ∧ ∃ cur', w'.heap[g]? = some (.cells cur' 45 (0, 0)) ∧ cur'.size = cur.size ∧ cur'.toList.take (xs.length * 4) = ys.flatMap cellsR := by
  obtain ⟨dn, hdn⟩ : ∃ dn : List GR, dn.map Subtype.val = xs := ⟨xs.attach.map fun x => ⟨x.1, hg x.1 x.2⟩, by rw [List.map_map]; exact List.attach_map_subtype_val xs⟩
  have hlen : dn.length = xs.length := by rw [← hdn, List.length_map]
  obtain ⟨x0, t0, hx0⟩ := List.exists_cons_of_ne_nil (show dn ≠ [] from fun e => hne (by rw [← hdn, e]; rfl))
  haveI : Inhabited GR := ⟨x0⟩
  have eg : ∀ args w, (callFunc 77 args).run Tryz.prog w = .ok (.enter 77 args) w := enters_of Tryz.func77 (by kernel_rfl) rfl
  have hH := holdsG dn hb (by rw [hlen, hdn]; exact ht)
  have hblk : g < W.heap.size := (Array.getElem?_eq_some_iff.1 hb).1
  have hc := AnyQ.slices_SortFunc_total Tryz.sort 4 (fun w => Tryz.isAgg45 w) (fun w => Tryz.sizeOf45 w) encG (fun _ => rfl) (fun x => cells_one x.1) ordG swoG 77 #[] g 0 cap dn.toArray W eg (cmp_lays W0 W g _ hv (fun m os dk => below_sortW hB hg0 hB.size m dk os)) hH hblk (by simp; omega) partsG
  have hcur : xs.length * 4 ≤ cur.size := by
    have := congrArg List.length ht
    rw [flat_len4, List.length_take] at this
    have h2 : cur.toList.length = cur.size := Array.length_toList
    have h3 : min (xs.length * 4) cur.toList.length ≤ cur.toList.length := Nat.min_le_right _ _
    rw [this, h2] at h3
    exact h3
  generalize hds : dn.mergeSort (fun x y => !(ltOf ordG) y x) = ds at hc
  have hp : ds.Perm dn := by rw [← hds]; exact List.mergeSort_perm dn _
  have hsrt : ds.Pairwise fun x y => (!(ltOf ordG) y x) = true := by
    rw [← hds]
    refine List.pairwise_mergeSort (fun x y z h h' => ?_) (fun x y => ?_) dn
    · simp only [Bool.not_eq_true'] at *
      exact swoG.ntrans _ _ _ h' h
    · cases h1 : ltOf ordG x y with
      | false => simp
      | true =>
        cases h2 : ltOf ordG y x with
        | false => simp
        | true =>
          have := swoG.trans _ _ _ h1 h2
          rw [swoG.irrefl] at this; cases this
  have hdl : ds.length = xs.length := by rw [hp.length_eq, hlen]
  refine ⟨ds.map Subtype.val, by rw [← hdn]; exact hp.map _, ?_, by rw [List.length_map, hdl], ?_⟩
  · rw [List.pairwise_map]
    refine hsrt.imp fun {x y} h => ?_
    simp only [Bool.not_eq_true', lt_g] at h
    exact of_decide_eq_false h
  · have hc2 : Calls Tryz.prog 138 #[.slice (some ⟨g, 0, none⟩) dn.length cap, .func (.func 77) #[] #[]] W fun e w' => e = .returned (.tuple #[]) ∧ ∃ n os, w' = sortWorldK encG 4 W g 0 n ds.toArray os := hc
    rw [hlen] at hc2
    refine hc2.mono ?_
    rintro e w' ⟨rfl, n, os, rfl⟩
    refine ⟨rfl, below_sortW (Go.RowKit.Below.refl _ W) hg0 hB.size n _ os, putCells id 0 (flatK encG 4 ds.toArray) cur, ?_, by simp [putCells], ?_⟩
    · have hh : (putRowK encG 4 (Sort.ahead W n) g 0 ds.toArray).heap[g]? = some (.cells (putCells id 0 (flatK encG 4 ds.toArray) cur) 45 (0, 0)) := by
        simp [putRowK, putRow, mapBlock, Sort.ahead, Array.getElem?_modify, hb, onCells]
      simp only [sortWorldK, grow]
      rw [Array.getElem?_append_left (Array.getElem?_eq_some_iff.1 hh).1]
      exact hh
    · apply List.ext_getElem?
      intro j
      rw [List.getElem?_take, Array.getElem?_toList]
      by_cases hj : j < xs.length * 4
      · have hj4 : j / 4 < ds.length := by omega
        have hjm : j / 4 < (ds.map Subtype.val).length := by rw [List.length_map]; exact hj4
        rw [if_pos hj, flat_get _ j hjm]
        have hl4 : (cellsR ds[j / 4].1).length = 4 := rfl
        simp only [putCells, Array.getElem?_mapIdx, Array.getElem?_eq_getElem (show j < cur.size by omega), Option.map_some]
        rw [if_pos (by rw [size_flatK, List.size_toArray]; omega), Nat.sub_zero, get_flatK encG 4 ds.toArray j (by rw [List.size_toArray]; omega)]
        have e1 : ds.toArray[j / 4]! = ds[j / 4] := by rw [getElem!_pos _ _ (by simpa using hj4)]; simp
        rw [e1, List.getElem_map, List.getElem?_eq_getElem (by rw [hl4]; omega)]
        show some ((cellsR ds[j / 4].1)[j % 4]!) = some _
        rw [getElem!_pos (cellsR ds[j / 4].1) (j % 4) (by rw [hl4]; omega)]
      · rw [if_neg hj, List.getElem?_eq_none (by rw [flat_len4, List.length_map]; omega)]
end Go.Proofs.YtiegkjimpclmaaaGreatDoor.P
namespace Go.Proofs.YtiegkjimpclmaaaGreatDoor.P
open Go.Shelf
def Fall : Fence := { fn := fun _ => True }
theorem collect_calls (Bs : Nat) (w0 : World) (A : Option Addr) (cap : Nat) (xs : List IR) (hrow : Kd.C k45 w0 A xs.length xs) (hmax : xs.length ≤ 1048576)
    (w : World) (hB : Below w0.heap.size w0 w) (hBs : Bs < w.heap.size) (hc : w.cell? ⟨Bs, 0, none⟩ = some (.slice A xs.length cap)) :
    Calls Tryz.prog 137 #[.func (.func 139) #[] #[.pointer (some ⟨Bs, 0, none⟩)]] w fun e W' => ∃ v, e = .returned v ∧ W'.ownsRow w.heap.size 45 4 v xs.length (xs.flatMap cellsR) ∧ (v = .slice none 0 0 ↔ xs = []) ∧ Below w.heap.size w W' :=
  (collect_in Fall 4 trivial trivial trivial rfl (Nat.le_refl _) Bs w0 A cap xs hrow hmax w hB hBs hc).calls (fun k => by simp [Fall, Fence.room])
theorem values_calls (a : Option Addr) (len cap : Nat) (w : World) :
    Calls Tryz.prog 76 #[.slice a len cap] w fun e w' => e = .returned (.func (.func 139) #[] #[.pointer (some ⟨w.heap.size, 0, none⟩)]) ∧ w' = w.alloc (.cells #[.slice a len cap] 27) :=
  (values_in Fall 4 trivial rfl a len cap w).calls (fun k => by simp [Fall, Fence.room])
theorem sortR_none (W : World) (p : Option Addr) (cap : Nat) (fv : Value) : Calls Tryz.prog 138 #[.slice p 0 cap, fv] W fun e w' => e = .returned (.tuple #[]) ∧ w' = W :=
  AnyF.slices_SortFunc_none (P := Tryz.prog) (ρ := Tryz.sort_ren) { Tryz.sort with } p cap fv W
def SortedRow (xs : List IR) (b : Nat) (v : Value) (W : World) : Prop := ∃ ys : List IR, ys.Perm xs ∧ ys.Pairwise (fun x y => ¬ Pure.od y x < 0) ∧ W.ownsRow b 45 4 v xs.length (ys.flatMap cellsR)
theorem sorted_calls (Bs : Nat) (w0 : World) (A : Option Addr) (cap : Nat) (xs : List IR) (hrow : Kd.C k45 w0 A xs.length xs) (hmax : xs.length ≤ 60) (hgood : ∀ x ∈ xs, Pure.SmR x ∧ Pure.gd x = true)
    (w : World) (hv : Vars w) (hB : Below w0.heap.size w0 w) (hBs : Bs < w.heap.size) (hc : w.cell? ⟨Bs, 0, none⟩ = some (.slice A xs.length cap)) :
    Calls Tryz.prog 75 #[.func (.func 139) #[] #[.pointer (some ⟨Bs, 0, none⟩)], .func (.func 77) #[] #[]] w fun e W' => ∃ v, e = .returned v ∧ SortedRow xs w.heap.size v W' ∧ Below w.heap.size w W' := by
  have hcol := collect_calls Bs w0 A cap xs hrow (by omega) w hB hBs hc
  by_cases hne : xs = []
  · subst hne
    go_enter Tryz.func75, Tryz.ntmps75
    go_wp2_with (first
      | (go_at_call 137; refine hcol.mono ?_; rintro e w' ⟨v, rfl, ho, hnil, hb⟩; obtain rfl := hnil.2 rfl)
      | (go_at_call 138; refine (sortR_none _ _ _ _).mono ?_; rintro e w2 ⟨rfl, rfl⟩))
    go_ret
    exact ⟨_, rfl, ⟨[], List.Perm.refl _, List.Pairwise.nil, ho⟩, hb⟩
  · have hcol2 : Calls Tryz.prog 137 #[.func (.func 139) #[] #[.pointer (some ⟨Bs, 0, none⟩)]] w fun e W' => ∃ g cp cur, e = .returned (.slice (some ⟨g, 0, none⟩) xs.length cp) ∧ w.heap.size ≤ g ∧ W'.heap[g]? = some (.cells cur 45 (0, 0)) ∧ xs.length ≤ cp ∧ cp ≤ maxLen ∧ cur.size = cp * 4 ∧ cur.toList.take (xs.length * 4) = xs.flatMap cellsR ∧ Below w.heap.size w W' := by
      refine hcol.mono ?_
      rintro e W' ⟨v, rfl, ho, hnil, hb⟩
      rcases ho.2 with ⟨rfl, h0⟩ | ⟨g, cp, cur, rfl, q1, q2, q3, q4, q5, q6⟩
      · exact absurd (hnil.1 rfl) hne
      · exact ⟨g, cp, cur, rfl, q1, q2, q3, q4, q5, q6, hb⟩
    clear hcol
    go_enter Tryz.func75, Tryz.ntmps75
    go_wp2_with (first
      | (go_at_call 137; refine hcol2.mono ?_; rintro e w' ⟨g, cp, cur, rfl, q1, q2, q3, q4, q5, q6, hb⟩; clear hcol2; obtain ⟨ys, hp, hs, hyl, hcall⟩ := sort_own w w' g cp cur xs hgood hmax hne hv hb q1 q2 q6)
      | (go_at_call 138; refine hcall.mono ?_; rintro e w2 ⟨rfl, hb2, cur', r1, r2, r3⟩))
    go_ret
    exact ⟨_, rfl, ⟨ys, hp, hs.imp (fun h => Int.not_lt.2 h), by rw [flat_len4, hyl], .inr ⟨g, cp, cur', rfl, q1, r1, q3, q4, by rw [r2, q5], r3⟩⟩, hb.trans hb2⟩
end Go.Proofs.YtiegkjimpclmaaaGreatDoor.P
namespace Go.Proofs.YtiegkjimpclmaaaGreatDoor.P
open Go.Shelf
open Classical in
noncomputable def slices_SortedFunc_rec.f (l0 : List IR) : Option (List IR) := if l0.length ≤ 60 ∧ Pure.Goods l0 then some (Pure.inOrder l0) else none
theorem reps_cells (w : World) (base : Nat) (ok : Nat → Prop) : ∀ (ys acc : List IR) (cs : List Value), Reps (k45.M w base ok) 4 acc cs → Reps (k45.M w base ok) 4 (acc ++ ys) (cs ++ ys.flatMap cellsR)
  | [], acc, cs, h => by simpa using h
  | y :: ys, acc, cs, h => by
    have := reps_cells w base ok ys (acc ++ [y]) (cs ++ cellsR y) (h.snoc (k45_mkM w base ok y) rfl)
    simpa using this
theorem row_R {W : World} {b : Nat} {v : Value} {ys : List IR} (h : W.ownsRow b 45 4 v ys.length (ys.flatMap cellsR)) : Kd.R k45 45 W b (fun _ => True) v ys :=
  ⟨fun _ _ => trivial, ys.flatMap cellsR, h, reps_cells W b (fun k => True ∧ some k ≠ v.ownBlock) ys [] [] (Reps.none _ _)⟩
theorem slices_SortedFunc_rec.calls (A0 : Option Addr) (c0 : Nat) (l0 r : List IR) (w : World) (hr0 : Kd.C k45 w A0 l0.length l0) (hc0 : l0.length ≤ c0) (h : slices_SortedFunc_rec.f l0 = some r)
    (hv_ : Vars w := by first | assumption | (refine Vars.below (Aside0.out (by assumption)) ?_; repeat (first | (with_reducible first | exact Below.refl _ _ | exact Aside0.out (by assumption) | apply below_alloc | apply pw_below_drewN | apply below_drew1) | exact Aside0.out (by assumption)))) :
    Calls Tryz.prog 75 #[.func (.func 139) #[] #[.pointer (some ⟨w.heap.size, 0, none⟩)], .func (.func 77) #[] #[]] (w.alloc (.cells #[.slice A0 l0.length c0] 27)) fun e w' => ∃ v0_ : Value, e = .returned (v0_) ∧ Kd.R k45 45 w' w.heap.size (fun _ => True) v0_ r ∧ Below w.heap.size w w' := by
  unfold slices_SortedFunc_rec.f at h
  split at h
  · rename_i hc
    obtain rfl := Option.some.inj h
    have hb : Below w.heap.size w (w.alloc (.cells #[.slice A0 l0.length c0] 27)) := below_alloc (Below.refl _ _) _
    refine (sorted_calls w.heap.size w A0 c0 l0 hr0 hc.1 hc.2 _ (Vars.below hv_ hb) hb (by rw [World.size_alloc]; omega) ((blk_cell (World.alloc_heap_new _ _) 0).trans rfl)).mono ?_
    rintro e w' ⟨v, rfl, ⟨ys, hp, hs, ho⟩, hb2⟩
    have ey := Pure.inOrder_eq hc.2 hp hs
    rw [ey]
    rw [← hp.length_eq] at ho
    exact ⟨v, rfl, Kd.R_lower (row_R ho) (by rw [World.size_alloc]; omega), below_step hb hb2⟩
  · cases h
end Go.Proofs.YtiegkjimpclmaaaGreatDoor.P
