/- FnExactQuestionFor: part 11 of 27 of my texts for this claim, joined; the theorem stands in the last. Conditions: none beyond the statement's. -/
import Derived.Shelf.Strings.Split
import Derived.Shelf.Strings.SlTrimAscii
import Derived.Test.YtkpkfallgjdkmaaGreatDoorProg
import Derived.Lib.SplitLaws
import Derived.Lib.SlTrimSet
import Derived.Lib.IndexBytes
import Derived.Test.YtkpkfallgjdkmaaGreatDoorMFnExactQuestionForx2
import Derived.Shelf.AbstractIn
import Derived.Test.YtkpkfallgjdkmaaGreatDoorMFnExactQuestionForx9
-- Shelf
/- The shelf's layings at this program: each the kernel's comparison of a library function's body. Conditions: none. -/
namespace Go.Proofs
open Go.Shelf
def Tryz.lays143_ren : Go.Shelf.Ren := ⟨fun | 143 => 126 | 219 => 149 | 217 => 166 | 225 => 167 | 224 => 168 | 267 => 169 | 266 => 185 | 314 => 186 | n => n, fun | 9 => 9 | 3 => 3 | 4 => 4 | 5 => 5 | 46 => 128 | 146 => 154 | 51 => 149 | n => n, fun | 1 => 0 | n => n⟩
theorem Tryz.lays143 : Go.Proofs.Lays.n143 Tryz.prog Tryz.lays143_ren := {
  mixed := by kernel_rfl
  f143 := Tryz.func126.trans (congrArg some (by kernel_rfl))
  f217 := Tryz.func166.trans (congrArg some (by kernel_rfl))
  f219 := Tryz.func149.trans (congrArg some (by kernel_rfl))
  f224 := Tryz.func168.trans (congrArg some (by kernel_rfl))
  f225 := Tryz.func167.trans (congrArg some (by kernel_rfl))
  f266 := Tryz.func185.trans (congrArg some (by kernel_rfl))
  f267 := Tryz.func169.trans (congrArg some (by kernel_rfl))
  f314 := Tryz.func186.trans (congrArg some (by kernel_rfl))
  t3 := Tryz.underlying3
  a3 := Tryz.isAgg3
  z3 := Tryz.sizeOf3
  v3 := Tryz.zeroValue3
  t4 := Tryz.underlying4
  a4 := Tryz.isAgg4
  z4 := Tryz.sizeOf4
  v4 := Tryz.zeroValue4
  t5 := Tryz.underlying5
  a5 := Tryz.isAgg5
  z5 := Tryz.sizeOf5
  v5 := Tryz.zeroValue5
  t9 := Tryz.underlying9
  a9 := Tryz.isAgg9
  z9 := Tryz.sizeOf9
  v9 := Tryz.zeroValue9
  t46 := Tryz.underlying128
  a46 := Tryz.isAgg128
  z46 := Tryz.sizeOf128
  v46 := Tryz.zeroValue128
  t51 := Tryz.underlying149
  a51 := Tryz.isAgg149
  z51 := Tryz.sizeOf149
  v51 := Tryz.zeroValue149
  t146 := Tryz.underlying154
  a146 := Tryz.isAgg154
  z146 := Tryz.sizeOf154
  v146 := Tryz.zeroValue154
  g1 := by kernel_rfl }
def Tryz.lays219_ren : Go.Shelf.Ren := ⟨fun | 219 => 149 | 217 => 166 | 225 => 167 | 224 => 168 | 267 => 169 | 266 => 185 | 314 => 186 | n => n, fun | 9 => 9 | 3 => 3 | 4 => 4 | 5 => 5 | 46 => 128 | 146 => 154 | 51 => 149 | n => n, fun | 1 => 0 | n => n⟩
theorem Tryz.lays219 : Go.Proofs.Lays.n219 Tryz.prog Tryz.lays219_ren := {
  mixed := by kernel_rfl
  f217 := Tryz.func166.trans (congrArg some (by kernel_rfl))
  f219 := Tryz.func149.trans (congrArg some (by kernel_rfl))
  f224 := Tryz.func168.trans (congrArg some (by kernel_rfl))
  f225 := Tryz.func167.trans (congrArg some (by kernel_rfl))
  f266 := Tryz.func185.trans (congrArg some (by kernel_rfl))
  f267 := Tryz.func169.trans (congrArg some (by kernel_rfl))
  f314 := Tryz.func186.trans (congrArg some (by kernel_rfl))
  t3 := Tryz.underlying3
  a3 := Tryz.isAgg3
  z3 := Tryz.sizeOf3
  v3 := Tryz.zeroValue3
  t4 := Tryz.underlying4
  a4 := Tryz.isAgg4
  z4 := Tryz.sizeOf4
  v4 := Tryz.zeroValue4
  t5 := Tryz.underlying5
  a5 := Tryz.isAgg5
  z5 := Tryz.sizeOf5
  v5 := Tryz.zeroValue5
  t9 := Tryz.underlying9
  a9 := Tryz.isAgg9
  z9 := Tryz.sizeOf9
  v9 := Tryz.zeroValue9
  t46 := Tryz.underlying128
  a46 := Tryz.isAgg128
  z46 := Tryz.sizeOf128
  v46 := Tryz.zeroValue128
  t51 := Tryz.underlying149
  a51 := Tryz.isAgg149
  z51 := Tryz.sizeOf149
  v51 := Tryz.zeroValue149
  t146 := Tryz.underlying154
  a146 := Tryz.isAgg154
  z146 := Tryz.sizeOf154
  v146 := Tryz.zeroValue154
  g1 := by kernel_rfl }
def Tryz.lays138_ren : Go.Shelf.Ren := ⟨fun | 138 => 158 | 195 => 178 | 218 => 179 | 143 => 126 | 219 => 149 | 217 => 166 | 225 => 167 | 224 => 168 | 267 => 169 | 266 => 185 | 314 => 186 | n => n, fun | 9 => 9 | 3 => 3 | 4 => 4 | 5 => 5 | 0 => 0 | 46 => 128 | 146 => 154 | 51 => 149 | n => n, fun | 1 => 0 | n => n⟩
theorem Tryz.lays138 : Go.Proofs.Lays.n138 Tryz.prog Tryz.lays138_ren := {
  mixed := by kernel_rfl
  f138 := Tryz.func158.trans (congrArg some (by kernel_rfl))
  f143 := Tryz.func126.trans (congrArg some (by kernel_rfl))
  f195 := Tryz.func178.trans (congrArg some (by kernel_rfl))
  f217 := Tryz.func166.trans (congrArg some (by kernel_rfl))
  f218 := Tryz.func179.trans (congrArg some (by kernel_rfl))
  f219 := Tryz.func149.trans (congrArg some (by kernel_rfl))
  f224 := Tryz.func168.trans (congrArg some (by kernel_rfl))
  f225 := Tryz.func167.trans (congrArg some (by kernel_rfl))
  f266 := Tryz.func185.trans (congrArg some (by kernel_rfl))
  f267 := Tryz.func169.trans (congrArg some (by kernel_rfl))
  f314 := Tryz.func186.trans (congrArg some (by kernel_rfl))
  t0 := Tryz.underlying0
  a0 := Tryz.isAgg0
  z0 := Tryz.sizeOf0
  v0 := Tryz.zeroValue0
  t3 := Tryz.underlying3
  a3 := Tryz.isAgg3
  z3 := Tryz.sizeOf3
  v3 := Tryz.zeroValue3
  t4 := Tryz.underlying4
  a4 := Tryz.isAgg4
  z4 := Tryz.sizeOf4
  v4 := Tryz.zeroValue4
  t5 := Tryz.underlying5
  a5 := Tryz.isAgg5
  z5 := Tryz.sizeOf5
  v5 := Tryz.zeroValue5
  t9 := Tryz.underlying9
  a9 := Tryz.isAgg9
  z9 := Tryz.sizeOf9
  v9 := Tryz.zeroValue9
  t46 := Tryz.underlying128
  a46 := Tryz.isAgg128
  z46 := Tryz.sizeOf128
  v46 := Tryz.zeroValue128
  t51 := Tryz.underlying149
  a51 := Tryz.isAgg149
  z51 := Tryz.sizeOf149
  v51 := Tryz.zeroValue149
  t146 := Tryz.underlying154
  a146 := Tryz.isAgg154
  z146 := Tryz.sizeOf154
  v146 := Tryz.zeroValue154
  g1 := by kernel_rfl }
def Tryz.lays221_ren : Go.Shelf.Ren := ⟨fun | 221 => 134 | 268 => 157 | 138 => 158 | 143 => 126 | 195 => 178 | 197 => 160 | 218 => 179 | 219 => 149 | 260 => 180 | 217 => 166 | 225 => 167 | 224 => 168 | 267 => 169 | 266 => 185 | 314 => 186 | n => n, fun | 9 => 9 | 3 => 3 | 31 => 63 | 4 => 4 | 0 => 0 | 105 => 136 | 21 => 21 | 5 => 5 | 46 => 128 | 119 => 157 | 139 => 160 | 138 => 159 | 146 => 154 | 51 => 149 | n => n, fun | 1 => 0 | 3 => 2 | 4 => 3 | n => n⟩
theorem Tryz.lays221 : Go.Proofs.Lays.n221 Tryz.prog Tryz.lays221_ren := {
  mixed := by kernel_rfl
  f138 := Tryz.func158.trans (congrArg some (by kernel_rfl))
  f143 := Tryz.func126.trans (congrArg some (by kernel_rfl))
  f195 := Tryz.func178.trans (congrArg some (by kernel_rfl))
  f197 := Tryz.func160.trans (congrArg some (by kernel_rfl))
  f217 := Tryz.func166.trans (congrArg some (by kernel_rfl))
  f218 := Tryz.func179.trans (congrArg some (by kernel_rfl))
  f219 := Tryz.func149.trans (congrArg some (by kernel_rfl))
  f221 := Tryz.func134.trans (congrArg some (by kernel_rfl))
  f224 := Tryz.func168.trans (congrArg some (by kernel_rfl))
  f225 := Tryz.func167.trans (congrArg some (by kernel_rfl))
  f260 := Tryz.func180.trans (congrArg some (by kernel_rfl))
  f266 := Tryz.func185.trans (congrArg some (by kernel_rfl))
  f267 := Tryz.func169.trans (congrArg some (by kernel_rfl))
  f268 := Tryz.func157.trans (congrArg some (by kernel_rfl))
  f314 := Tryz.func186.trans (congrArg some (by kernel_rfl))
  t0 := Tryz.underlying0
  a0 := Tryz.isAgg0
  z0 := Tryz.sizeOf0
  v0 := Tryz.zeroValue0
  t3 := Tryz.underlying3
  a3 := Tryz.isAgg3
  z3 := Tryz.sizeOf3
  v3 := Tryz.zeroValue3
  t4 := Tryz.underlying4
  a4 := Tryz.isAgg4
  z4 := Tryz.sizeOf4
  v4 := Tryz.zeroValue4
  t5 := Tryz.underlying5
  a5 := Tryz.isAgg5
  z5 := Tryz.sizeOf5
  v5 := Tryz.zeroValue5
  t9 := Tryz.underlying9
  a9 := Tryz.isAgg9
  z9 := Tryz.sizeOf9
  v9 := Tryz.zeroValue9
  t21 := Tryz.underlying21
  a21 := Tryz.isAgg21
  z21 := Tryz.sizeOf21
  v21 := Tryz.zeroValue21
  t31 := Tryz.underlying63
  a31 := Tryz.isAgg63
  z31 := Tryz.sizeOf63
  v31 := Tryz.zeroValue63
  t46 := Tryz.underlying128
  a46 := Tryz.isAgg128
  z46 := Tryz.sizeOf128
  v46 := Tryz.zeroValue128
  t51 := Tryz.underlying149
  a51 := Tryz.isAgg149
  z51 := Tryz.sizeOf149
  v51 := Tryz.zeroValue149
  t105 := Tryz.underlying136
  a105 := Tryz.isAgg136
  z105 := Tryz.sizeOf136
  v105 := Tryz.zeroValue136
  t119 := Tryz.underlying157
  a119 := Tryz.isAgg157
  z119 := Tryz.sizeOf157
  t138 := Tryz.underlying159
  a138 := Tryz.isAgg159
  z138 := Tryz.sizeOf159
  v138 := Tryz.zeroValue159
  t139 := Tryz.underlying160
  a139 := Tryz.isAgg160
  z139 := Tryz.sizeOf160
  v139 := Tryz.zeroValue160
  t146 := Tryz.underlying154
  a146 := Tryz.isAgg154
  z146 := Tryz.sizeOf154
  v146 := Tryz.zeroValue154
  g1 := by kernel_rfl
  g3 := by kernel_rfl
  g4 := by kernel_rfl }
def Tryz.lays160_ren : Go.Shelf.Ren := ⟨fun | 160 => 119 | 232 => 136 | 231 => 135 | 227 => 137 | 234 => 139 | 233 => 138 | 236 => 141 | 235 => 140 | 228 => 159 | 271 => 162 | 151 => 161 | 197 => 160 | 120 => 182 | 152 => 181 | 260 => 180 | 137 => 190 | 119 => 191 | 224 => 168 | 225 => 167 | 217 => 166 | 266 => 185 | n => n, fun | 9 => 9 | 4 => 4 | 3 => 3 | 5 => 5 | 117 => 119 | 116 => 118 | 0 => 0 | 124 => 122 | 21 => 21 | 105 => 136 | 46 => 128 | 119 => 157 | 139 => 160 | 138 => 159 | n => n, fun | 3 => 2 | 4 => 3 | n => n⟩
theorem Tryz.lays160 : Go.Proofs.Lays.n160 Tryz.prog Tryz.lays160_ren := {
  mixed := by kernel_rfl
  f119 := Tryz.func191.trans (congrArg some (by kernel_rfl))
  f120 := Tryz.func182.trans (congrArg some (by kernel_rfl))
  f137 := Tryz.func190.trans (congrArg some (by kernel_rfl))
  f151 := Tryz.func161.trans (congrArg some (by kernel_rfl))
  f152 := Tryz.func181.trans (congrArg some (by kernel_rfl))
  f160 := Tryz.func119.trans (congrArg some (by kernel_rfl))
  f197 := Tryz.func160.trans (congrArg some (by kernel_rfl))
  f217 := Tryz.func166.trans (congrArg some (by kernel_rfl))
  f224 := Tryz.func168.trans (congrArg some (by kernel_rfl))
  f225 := Tryz.func167.trans (congrArg some (by kernel_rfl))
  f227 := Tryz.func137.trans (congrArg some (by kernel_rfl))
  f228 := Tryz.func159.trans (congrArg some (by kernel_rfl))
  f231 := Tryz.func135.trans (congrArg some (by kernel_rfl))
  f232 := Tryz.func136.trans (congrArg some (by kernel_rfl))
  f233 := Tryz.func138.trans (congrArg some (by kernel_rfl))
  f234 := Tryz.func139.trans (congrArg some (by kernel_rfl))
  f235 := Tryz.func140.trans (congrArg some (by kernel_rfl))
  f236 := Tryz.func141.trans (congrArg some (by kernel_rfl))
  f260 := Tryz.func180.trans (congrArg some (by kernel_rfl))
  f266 := Tryz.func185.trans (congrArg some (by kernel_rfl))
  f271 := Tryz.func162.trans (congrArg some (by kernel_rfl))
  t0 := Tryz.underlying0
  a0 := Tryz.isAgg0
  z0 := Tryz.sizeOf0
  v0 := Tryz.zeroValue0
  t3 := Tryz.underlying3
  a3 := Tryz.isAgg3
  z3 := Tryz.sizeOf3
  v3 := Tryz.zeroValue3
  t4 := Tryz.underlying4
  a4 := Tryz.isAgg4
  z4 := Tryz.sizeOf4
  v4 := Tryz.zeroValue4
  t5 := Tryz.underlying5
  a5 := Tryz.isAgg5
  z5 := Tryz.sizeOf5
  v5 := Tryz.zeroValue5
  t9 := Tryz.underlying9
  a9 := Tryz.isAgg9
  z9 := Tryz.sizeOf9
  v9 := Tryz.zeroValue9
  t21 := Tryz.underlying21
  a21 := Tryz.isAgg21
  z21 := Tryz.sizeOf21
  v21 := Tryz.zeroValue21
  t46 := Tryz.underlying128
  a46 := Tryz.isAgg128
  z46 := Tryz.sizeOf128
  v46 := Tryz.zeroValue128
  t105 := Tryz.underlying136
  a105 := Tryz.isAgg136
  z105 := Tryz.sizeOf136
  v105 := Tryz.zeroValue136
  t116 := Tryz.underlying118
  a116 := Tryz.isAgg118
  z116 := Tryz.sizeOf118
  t117 := Tryz.underlying119
  a117 := Tryz.isAgg119
  z117 := Tryz.sizeOf119
  v117 := Tryz.zeroValue119
  t119 := Tryz.underlying157
  a119 := Tryz.isAgg157
  z119 := Tryz.sizeOf157
  t124 := Tryz.underlying122
  a124 := Tryz.isAgg122
  z124 := Tryz.sizeOf122
  v124 := Tryz.zeroValue122
  t138 := Tryz.underlying159
  a138 := Tryz.isAgg159
  z138 := Tryz.sizeOf159
  v138 := Tryz.zeroValue159
  t139 := Tryz.underlying160
  a139 := Tryz.isAgg160
  z139 := Tryz.sizeOf160
  v139 := Tryz.zeroValue160
  g3 := by kernel_rfl
  g4 := by kernel_rfl }
end Go.Proofs

-- HPlain
/- Plain words on byte strings: cutting a text at a byte, labels and names; nothing of any program. Conditions: none. -/
namespace Go.Proofs.YtkpkfallgjdkmaaGreatDoor.P

/-- A byte string of a list of bytes. -/
def mkB (l : List UInt8) : ByteArray := ⟨l.toArray⟩
theorem mkB_data (l : List UInt8) : (mkB l).data.toList = l := by simp [mkB]
theorem data_mkB (s : ByteArray) : mkB s.data.toList = s := by
  show ByteArray.mk s.data.toList.toArray = s
  rw [Array.toArray_toList]
theorem mkB_size (l : List UInt8) : (mkB l).size = l.length := by simp [mkB, ByteArray.size]
theorem size_len (s : ByteArray) : s.size = s.data.toList.length := by
  rw [Array.length_toList]
  rfl
theorem ext_data {s t : ByteArray} (h : s.data.toList = t.data.toList) : s = t := by rw [← data_mkB s, h, data_mkB]

/-- A text cut at each of a byte. -/
def splitL (c : UInt8) : List UInt8 → List (List UInt8)
  | [] => [[]]
  | x :: xs => if x = c then [] :: splitL c xs else match splitL c xs with
    | [] => [[x]]
    | p :: ps => (x :: p) :: ps
theorem splitL_ne (c : UInt8) (l : List UInt8) : splitL c l ≠ [] := by
  cases l with
  | nil => simp [splitL]
  | cons x xs =>
    unfold splitL
    split
    · simp
    · split <;> simp
theorem splitL_none (c : UInt8) (l : List UInt8) (h : ∀ x ∈ l, x ≠ c) : splitL c l = [l] := by
  induction l with
  | nil => rfl
  | cons x xs ih =>
    rw [splitL, if_neg (h x List.mem_cons_self), ih fun y hy => h y (List.mem_cons_of_mem _ hy)]
theorem splitL_hit (c : UInt8) (p r : List UInt8) (h : ∀ x ∈ p, x ≠ c) : splitL c (p ++ c :: r) = p :: splitL c r := by
  induction p with
  | nil => simp [splitL]
  | cons x xs ih =>
    rw [List.cons_append, splitL, if_neg (h x List.mem_cons_self), ih fun y hy => h y (List.mem_cons_of_mem _ hy)]

/-- The place of a byte. -/
theorem place_or (c : UInt8) (l : List UInt8) : (Go.Lib.indexByte l c = -1 ∧ ∀ x ∈ l, x ≠ c) ∨ ∃ p r, l = p ++ c :: r ∧ (∀ x ∈ p, x ≠ c) ∧ Go.Lib.indexByte l c = p.length := by
  induction l with
  | nil => exact .inl ⟨rfl, fun x hx => by cases hx⟩
  | cons x xs ih =>
    by_cases h : x = c
    · subst h
      exact .inr ⟨[], xs, rfl, fun x hx => by (cases hx), by simp [Go.Lib.indexByte]⟩
    · rcases ih with ⟨h1, h2⟩ | ⟨p, r, h1, h2, h3⟩
      · refine .inl ⟨?_, fun y hy => ?_⟩
        · simp [Go.Lib.indexByte, h, h1]
        · rcases List.mem_cons.1 hy with rfl | hy
          · exact h
          · exact h2 y hy
      · refine .inr ⟨x :: p, r, by rw [h1]; rfl, fun y hy => ?_, ?_⟩
        · rcases List.mem_cons.1 hy with rfl | hy
          · exact h
          · exact h2 y hy
        · simp [Go.Lib.indexByte, h, h3]

theorem splitK_one (c : UInt8) (n : Nat) : ∀ l : List UInt8, l.count c = n → Go.Lib.splitK [c] 0 n l = splitL c l := by
  induction n with
  | zero =>
    intro l h
    rw [splitL_none c l fun x hx e => by subst e; exact absurd (List.count_pos_iff.2 hx) (by omega)]
    rfl
  | succ n ih =>
    intro l h
    rcases place_or c l with ⟨_, h2⟩ | ⟨p, r, rfl, h2, h3⟩
    · rw [List.count_eq_zero.2 fun hm => h2 c hm rfl] at h; omega
    · have h4 : p.count c = 0 := List.count_eq_zero.2 fun hm => h2 c hm rfl
      rw [Go.Lib.splitK, Go.Lib.index_one, h3, splitL_hit c p r h2, if_neg (by simp)]
      congr 1
      · simp
      · rw [← ih r (by rw [List.count_append, h4, List.count_cons_self] at h; omega)]
        congr 1
        simp

theorem splitB_one (c : UInt8) (s : ByteArray) : Go.Lib.splitB ⟨#[c]⟩ 0 (Go.Lib.countB s ⟨#[c]⟩) s = (splitL c s.data.toList).map mkB := by
  have h := Go.Lib.splitB_data ⟨#[c]⟩ 0 (Go.Lib.countB s ⟨#[c]⟩) s
  rw [show (⟨#[c]⟩ : ByteArray).data.toList = [c] from rfl, splitK_one c _ _ (by rw [Go.Lib.countB, show (⟨#[c]⟩ : ByteArray).data.toList = [c] from rfl, Go.Lib.count_one])] at h
  rw [← h, List.map_map]
  simp [Function.comp_def, data_mkB]

/-- Is a byte one of a label's? -/
def labelByte (b : UInt8) : Bool := (decide (97 ≤ b.toNat ∧ b.toNat ≤ 122)) || (decide (48 ≤ b.toNat ∧ b.toNat ≤ 57)) || b == 45 || b == 95
def isLabelL (l : List UInt8) : Bool := l == [42] || (decide (1 ≤ l.length ∧ l.length ≤ 20) && l.all labelByte)
def labelsL (l : List UInt8) : List (List UInt8) := if l = [] then [] else splitL 46 l
def goodL (l : List UInt8) : Bool := decide (l.length ≤ 60) && (decide ((labelsL l).length ≤ 8) && (labelsL l).all isLabelL)

theorem trimS_nil (l cs : List UInt8) : (Go.Lib.trimS l cs = []) ↔ l.all (cs.contains ·) = true := by
  have hd : ∀ m : List UInt8, m.dropWhile (cs.contains ·) = [] ↔ m.all (cs.contains ·) = true := by
    intro m
    induction m with
    | nil => simp
    | cons x xs ih =>
      rw [List.dropWhile_cons, List.all_cons]
      by_cases h : cs.contains x = true
      · rw [if_pos h, ih, h, Bool.true_and]
      · rw [if_neg h, Bool.eq_false_iff.mpr h]
        simp
  unfold Go.Lib.trimS Go.Lib.trimLeftS Go.Lib.trimRightS
  rw [hd, List.all_reverse]
  constructor
  · intro h
    by_cases hn : l.reverse.dropWhile (cs.contains ·) = []
    · have := (hd _).1 hn
      rwa [List.all_reverse] at this
    · exfalso
      obtain ⟨x, xs, hx⟩ := List.exists_cons_of_ne_nil hn
      rw [hx, List.all_cons, Bool.and_eq_true] at h
      have h2 := List.head?_dropWhile_not (cs.contains ·) l.reverse
      rw [hx] at h2
      simp at h2
      rw [List.contains_eq_mem] at h
      simp at h
      exact h2 h.1
  · intro h
    have := (hd l.reverse).2 (by rw [List.all_reverse]; exact h)
    rw [this]
    rfl

end Go.Proofs.YtkpkfallgjdkmaaGreatDoor.P

-- HStr
/- Contracts of the library's string functions at a separator of one byte, over the shelf's layings: what strings.Split, strings.Trim, internal/stringslite.Index return. Conditions: the separator is one byte, the cutset is ASCII, the text is below 2^32 bytes. -/
namespace Go.Proofs.YtkpkfallgjdkmaaGreatDoor.P
open Go.Shelf Go.RowKit Go.Proofs.YtkpkfallgjdkmaaGreatDoorW.PrintWords Go.Proofs.YtkpkfallgjdkmaaGreatDoorW.PrintLast Go.Proofs.YtkpkfallgjdkmaaGreatDoorW.PrintMore
set_option linter.unusedVariables false

theorem reps_strs (R : ByteArray → List Value → Prop) (hR : ∀ x, R x [.string x]) (l : List ByteArray) : Reps R 1 l (l.map Value.string) := by
  refine ⟨by simp, fun j p hj => ?_⟩
  have h : ((l.map Value.string).drop (j * 1)).take 1 = [.string p] := by
    rw [Nat.mul_one]
    have h2 : (l.map Value.string)[j]? = some (.string p) := by rw [List.getElem?_map, hj]; rfl
    obtain ⟨h3, h4⟩ := List.getElem?_eq_some_iff.1 h2
    rw [List.drop_eq_getElem_cons h3, h4]
    rfl
  rw [h]
  exact hR p

/-- A new block of strings is a row of the call's own. -/
theorem R_strs (W : World) (base t : Nat) (l : List ByteArray) (hb : base ≤ W.heap.size) (hm : l.length ≤ 9223372036854775807) :
    Kd.R Kd.string t (W.alloc (.cells (l.map Value.string).toArray t)) base (fun _ => True) (.slice (some ⟨W.heap.size, 0, none⟩) l.length l.length) l :=
  ⟨fun _ _ => trivial, OwnRow.lit W base (reps_strs (fun x cs => cs = [.string x]) (fun _ => rfl) l) hb hm⟩

/-- strings.Split at one byte. -/
def strings_Split.f (s sep : ByteArray) : Option (List ByteArray) :=
  if sep.size = 1 then (if s.size < 4294967281 then some ((splitL (sep.data.toList.headD 0) s.data.toList).map mkB) else none) else none

theorem strings_Split.calls (a0 a1 : ByteArray) (r : List ByteArray) (w : World) (h : strings_Split.f a0 a1 = some r) :
    Calls Tryz.prog 117 #[.string a0, .string a1] w fun e w' => ∃ v0_ : Value, e = .returned (v0_) ∧ Kd.R Kd.string 9 w' w.heap.size (fun _ => True) v0_ r ∧ Below w.heap.size w w' := by
  unfold strings_Split.f at h
  by_cases h1 : a1.size = 1
  · rw [if_pos h1] at h
    by_cases h2 : a0.size < 4294967281
    · rw [if_pos h2] at h
      obtain ⟨c, rfl⟩ := Lib.one_byte a1 h1
      have h := Option.some.inj h
      rw [show (List.headD (⟨#[c]⟩ : ByteArray).data.toList 0) = c from rfl, ← splitB_one c a0] at h
      have h11 : 1 ≤ (⟨#[c]⟩ : ByteArray).size := Nat.le_refl 1
      have hN := Lib.splitB_all ⟨#[c]⟩ h11 0 _ a0 rfl
      have hcl := Lib.countB_le ⟨#[c]⟩ h11 a0.size a0 (Nat.le_refl _)
      have ei : Lib.indexB a0 ⟨#[c]⟩ = Lib.indexByte a0.data.toList c := Lib.index_one _ _
      have cc := Any.strings_genSplit_core (P := Tryz.prog) { Tryz.lays221 with } (by kernel_rfl) a0 ⟨#[c]⟩ 0 (-1) (Lib.countB a0 ⟨#[c]⟩ + 1) w h2 h11 (Nat.zero_le _)
        (fun x cs hx => (Any.strings_Index_one Tryz.lays143 x c _).mono fun e w' ⟨he, hw⟩ => ⟨by rw [he, Lib.indexB, show (⟨#[c]⟩ : ByteArray).data.toList = [c] from rfl, Lib.index_one], hw⟩)
        ((Any.strings_Count_one Tryz.lays138 a0 c w).mono fun e w' ⟨he, hw⟩ => ⟨by rw [he, Lib.countB, show (⟨#[c]⟩ : ByteArray).data.toList = [c] from rfl, Lib.count_one]; rfl, hw⟩)
        (by decide) (by decide) (by rw [if_pos (by decide)]; omega)
      rw [Nat.add_sub_cancel, hN] at cc
      have e2 : Lib.cellsOf (Lib.splitB ⟨#[c]⟩ 0 (Lib.countB a0 ⟨#[c]⟩) a0) (Lib.countB a0 ⟨#[c]⟩ + 1) = ((Lib.splitB ⟨#[c]⟩ 0 (Lib.countB a0 ⟨#[c]⟩) a0).map Value.string).toArray := by rw [← hN]; exact Lib.cellsOf_full _
      rw [e2, h] at cc
      rw [h] at hN
      rw [← hN] at cc
      have hR := R_strs w w.heap.size 9 r (Nat.le_refl _) (by omega)
      have cc2 : Calls Tryz.prog 134 #[.string a0, .string ⟨#[c]⟩, .int .i64 0, .int .i64 (-1)] w fun e w' => e = .returned (.slice (some ⟨w.heap.size, 0, none⟩) r.length r.length) ∧ w' = w.alloc (.cells (r.map Value.string).toArray 9) := cc
      clear cc hN hcl ei e2 h
      go_enter Tryz.func117, Tryz.ntmps117
      go_wp2_with (go_at_call 134; refine cc2.mono ?_; rintro e w' ⟨rfl, hw⟩; rw [hw])
      go_ret
      exact ⟨_, rfl, hR, below_alloc (Below.refl _ _) _⟩
    · rw [if_neg h2] at h; cases h
  · rw [if_neg h1] at h; cases h

/-- internal/stringslite.Index at one byte. -/
def internal_stringslite_Index.f (s sep : ByteArray) : Option Int :=
  if sep.size = 1 then some (Lib.indexByte s.data.toList (sep.data.toList.headD 0)) else none
theorem internal_stringslite_Index.calls (a0 a1 : ByteArray) (r : Int) (w : World) (h : internal_stringslite_Index.f a0 a1 = some r) :
    Calls Tryz.prog 149 #[.string a0, .string a1] w fun e w' => e = .returned (.int .i64 r) ∧ Drawn0 w w' := by
  unfold internal_stringslite_Index.f at h
  by_cases h1 : a1.size = 1
  · rw [if_pos h1] at h
    obtain ⟨c, rfl⟩ := Lib.one_byte a1 h1
    obtain rfl := Option.some.inj h
    exact (Any.stringslite_Index_one Tryz.lays219 a0 c w).mono fun e w' ⟨he, hw⟩ => ⟨he, by rw [hw]; exact Drawn0.refl _⟩
  · rw [if_neg h1] at h; cases h

/-- strings.Trim at an ASCII cutset. -/
def strings_Trim.f (s cs : ByteArray) : Option ByteArray :=
  if s.size ≤ 9223372036854775807 then (if cs.size < 4294967281 then (if cs.data.toList.all (fun b => decide (b.toNat < 128)) = true then some (mkB (Lib.trimS s.data.toList cs.data.toList)) else none) else none) else none
theorem strings_Trim.calls (a0 a1 : ByteArray) (r : ByteArray) (w : World) (h : strings_Trim.f a0 a1 = some r) :
    Calls Tryz.prog 119 #[.string a0, .string a1] w fun e w' => e = .returned (.string r) ∧ Below w.heap.size w w' := by
  unfold strings_Trim.f at h
  by_cases h1 : a0.size ≤ 9223372036854775807
  · by_cases h2 : a1.size < 4294967281
    · by_cases h3 : a1.data.toList.all (fun b => decide (b.toNat < 128)) = true
      · rw [if_pos h1, if_pos h2, if_pos h3] at h
        obtain rfl := Option.some.inj h
        exact Any.strings_Trim_ascii Tryz.lays160 (fun _ => by kernel_rfl) (by kernel_rfl) a0 a1 w h1 h2 (fun j b hj => of_decide_eq_true (List.all_eq_true.1 h3 b (List.mem_of_getElem? hj)))
      · rw [if_pos h1, if_pos h2, if_neg h3] at h; cases h
    · rw [if_pos h1, if_neg h2] at h; cases h
  · rw [if_neg h1] at h; cases h
end Go.Proofs.YtkpkfallgjdkmaaGreatDoor.P

-- HIdxPlain
/- What slices.IndexFunc returns, in plain Lean; what is asked of a predicate. Conditions: none. -/
namespace Go.Proofs.YtkpkfallgjdkmaaGreatDoor.P
open Go.RowKit Go.Proofs.YtkpkfallgjdkmaaGreatDoorW.PrintWords Go.Proofs.YtkpkfallgjdkmaaGreatDoorW.PrintLast
set_option linter.unusedVariables false

/-- Where the first element stands of which p holds; -1. -/
def idxP {α : Type} (p : α → Bool) : List α → Int → Int
  | [], _ => -1
  | x :: xs, i => if p x then i else idxP p xs (i + 1)

theorem idxP_hit {α : Type} (p : α → Bool) (xs : List α) (i : Int) (k : Nat) (x : α) (hk : xs[k]? = some x) (hx : p x = true) (hn : ∀ j y, j < k → xs[j]? = some y → p y = false) : idxP p xs i = i + k := by
  induction xs generalizing i k with
  | nil => simp at hk
  | cons a xs ih =>
    cases k with
    | zero =>
      obtain rfl : a = x := by simpa using hk
      simp [idxP, hx]
    | succ k =>
      have h0 : p a = false := hn 0 a (by omega) (by simp)
      simp only [idxP, h0]
      rw [if_neg (by decide), ih (i + 1) k (by simpa using hk) (fun j y hj hy => hn (j + 1) y (by omega) (by simpa using hy))]
      omega
theorem idxP_miss {α : Type} (p : α → Bool) (xs : List α) (i : Int) (hn : ∀ y ∈ xs, p y = false) : idxP p xs i = -1 := by
  induction xs generalizing i with
  | nil => rfl
  | cons a xs ih =>
    simp only [idxP, hn a List.mem_cons_self]
    rw [if_neg (by decide)]
    exact ih _ fun y hy => hn y (List.mem_cons_of_mem _ hy)
theorem idxP_any {α : Type} (p : α → Bool) (xs : List α) (i : Int) (h0 : 0 ≤ i) : decide (0 ≤ idxP p xs i) = xs.any p := by
  induction xs generalizing i with
  | nil => rfl
  | cons a xs ih =>
    rw [List.any_cons]
    by_cases h : p a = true
    · have e : idxP p (a :: xs) i = i := by simp [idxP, h]
      rw [e, h, Bool.true_or]
      exact decide_eq_true h0
    · have e : idxP p (a :: xs) i = idxP p xs (i + 1) := by simp [idxP, h]
      rw [e, Bool.eq_false_iff.mpr h, Bool.false_or]
      exact ih (i + 1) (by omega)

/-- What is asked of a predicate: whatever the later world, it answers p, and what lay stays. -/
def PredB {α : Type} (g : Nat) (cb : Array Value) (enc : α → Value) (p : α → Bool) (xs : List α) (w : World) : Prop :=
  ∀ x, x ∈ xs → ∀ W, Below w.heap.size w W → Calls Tryz.prog g (#[enc x] ++ cb) W fun e W' => e = .returned (.bool (p x)) ∧ Below W.heap.size W W'

end Go.Proofs.YtkpkfallgjdkmaaGreatDoor.P

-- HIdxStr
/- The walks of slices.IndexFunc and slices.ContainsFunc over a slice of texts. Conditions: none beyond the types. -/
namespace Go.Proofs.YtkpkfallgjdkmaaGreatDoor.P
open Go.RowKit Go.Proofs.YtkpkfallgjdkmaaGreatDoorW.PrintWords Go.Proofs.YtkpkfallgjdkmaaGreatDoorW.PrintLast
set_option linter.unusedVariables false

set_option maxHeartbeats 2000000 in
theorem index_str (A : Option Addr) (c : Nat) (xs : List ByteArray) (g : Nat) (cb : Array Value) (p : ByteArray → Bool) (w : World) (hr : Kd.C Kd.string w A xs.length xs)
    (eg : ∀ args w, (callFunc g args).run Tryz.prog w = .ok (.enter g args) w) (hp : PredB g cb .string p xs w) :
    Calls Tryz.prog 118 #[.slice A xs.length c, .func (.func g) #[] cb] w fun e w' => e = .returned (.int .i64 (idxP p xs 0)) ∧ Below w.heap.size w w' := by
  have hbig : xs.length ≤ 9223372036854775807 := hr.2.1
  go_enter Tryz.func118, Tryz.ntmps118
  go_wp2
  go_loopg [5, 8] xs.length (fun gg _ s8 wr => ∃ kk : Nat, kk ≤ xs.length ∧ xs.length - kk ≤ gg ∧ s8 = .int .i64 kk ∧ Aside0 (Below w.heap.size w wr) ∧ Aside0 (∀ j y, j < kk → xs[j]? = some y → p y = false))
  case atStart => exact ⟨0, Nat.zero_le _, by omega, rfl, ⟨Below.refl _ w⟩, ⟨fun j y hj => absurd hj (Nat.not_lt_zero _)⟩⟩
  case round =>
    obtain ⟨kk, hkk, hg, rfl, BW, AA⟩ := hrel
    by_cases hlt : kk < xs.length
    · have hltz : (kk : Int) < (xs.length : Int) := by omega
      obtain ⟨ad, e0, hx⟩ := Kd.at_string hr (kk : Int) (by omega) hltz
      cases e0
      have l2 := (BW.out.cell (World.block_lt_of_cell? _ _ hx)).trans hx
      clear hx
      rw [Int.toNat_natCast] at l2
      have hmem : xs[kk]? = some (rdOf ByteArray.empty xs kk) := by
        rw [List.getElem?_eq_getElem hlt]; simp [rdOf, List.getElem?_eq_getElem hlt]
      have hcall := hp (rdOf ByteArray.empty xs kk) (List.mem_of_getElem? hmem) wr BW.out
      clear hp
      generalize hy : rdOf ByteArray.empty xs kk = y at l2 hcall hmem
      have B := Aside0.mk hmem
      clear hmem hy
      have hkn : ((kk : Int)).toNat = kk := by omega
      cases hq : p y with
      | true =>
        rw [hq] at hcall
        go_wp2_with (go_at_fn g; refine hcall.mono ?_; rintro e w' ⟨rfl, hb'⟩)
        go_ret
        refine ⟨?_, below_then BW.out BW.out.size hb'⟩
        rw [idxP_hit p xs 0 kk y B.out hq AA.out]
        simp
      | false =>
        rw [hq] at hcall
        go_wp2_with (go_at_fn g; refine hcall.mono ?_; rintro e w' ⟨rfl, hb'⟩)
        go_roundg (xs.length - (kk + 1))
        case measure => omega
        case rel =>
          refine ⟨kk + 1, by omega, by omega, by go_num, ⟨below_then BW.out BW.out.size hb'⟩, ⟨fun j z hj hz => ?_⟩⟩
          by_cases e : j = kk
          · subst e
            rw [B.out] at hz
            cases hz
            exact hq
          · exact AA.out j z (by omega) hz
    · have hltz : ¬ (kk : Int) < (xs.length : Int) := by omega
      have hm : idxP p xs 0 = -1 := idxP_miss p xs 0 (fun y hy => by obtain ⟨j, hj, e⟩ := List.mem_iff_getElem.1 hy; exact AA.out j y (by omega) (by rw [List.getElem?_eq_getElem hj, e]))
      have HM := Aside0.mk hm
      clear hm
      go_wp2
      go_ret
      exact ⟨by rw [HM.out]; rfl, BW.out⟩

theorem contains_str (A : Option Addr) (c : Nat) (xs : List ByteArray) (g : Nat) (cb : Array Value) (p : ByteArray → Bool) (w : World) (hr : Kd.C Kd.string w A xs.length xs)
    (eg : ∀ args w, (callFunc g args).run Tryz.prog w = .ok (.enter g args) w) (hp : PredB g cb .string p xs w) :
    Calls Tryz.prog 100 #[.slice A xs.length c, .func (.func g) #[] cb] w fun e w' => e = .returned (.bool (xs.any p)) ∧ Below w.heap.size w w' := by
  rw [← idxP_any p xs 0 (by omega)]
  go_enter Tryz.func100, Tryz.ntmps100
  go_wp2_with (go_at_call 118; refine (index_str A c xs g cb p _ hr eg hp).mono ?_; rintro e w' ⟨rfl, hb'⟩)
  go_ret
  exact ⟨rfl, hb'⟩
end Go.Proofs.YtkpkfallgjdkmaaGreatDoor.P

-- F102
-- By my own call of the kit's print (wip/tools/pp.py).
namespace Go.Proofs.YtkpkfallgjdkmaaGreatDoor.P
open Go.RowKit Go.Proofs.YtkpkfallgjdkmaaGreatDoorW.PrintWords Go.Proofs.YtkpkfallgjdkmaaGreatDoorW.PrintLast Go.Proofs.YtkpkfallgjdkmaaGreatDoorW.PrintMore
attribute [local go_sem] max2_int min2_int max_two min_two max_three min_three max_four min_four
set_option linter.unusedVariables false
set_option linter.unusedSimpArgs false

/-! ### impl_isLabel: function 102 -/
def impl_isLabel.f (a0 : ByteArray) : Option (Bool) := if a0.toList = ([42] : List UInt8) then (some true) else ((impl_within.f (a0.size : Int) 1 20).bind fun t1035 => (if t1035 = true then ((strings_Trim.f a0 (⟨#[97, 98, 99, 100, 101, 102, 103, 104, 105, 106, 107, 108, 109, 110, 111, 112, 113, 114, 115, 116, 117, 118, 119, 120, 121, 122, 48, 49, 50, 51, 52, 53, 54, 55, 56, 57, 45, 95]⟩ : ByteArray)).bind fun t1036 => (some (t1036.toList == ([] : List UInt8)))) else (some false)))
set_option maxHeartbeats 8000000 in
set_option maxRecDepth 100000 in
theorem impl_isLabel.calls (a0 : ByteArray) (r : Bool) (w : World) (h : impl_isLabel.f a0 = some r) :
    Calls Tryz.prog 102 #[.string a0] w fun e w' => e = .returned (.bool r) ∧ Below w.heap.size w w' := by
  have HB := Aside0.mk (Below.refl w.heap.size w)
  have H : (if a0.toList = ([42] : List UInt8) then (some true) else ((impl_within.f (a0.size : Int) 1 20).bind fun t1035 => (if t1035 = true then ((strings_Trim.f a0 (⟨#[97, 98, 99, 100, 101, 102, 103, 104, 105, 106, 107, 108, 109, 110, 111, 112, 113, 114, 115, 116, 117, 118, 119, 120, 121, 122, 48, 49, 50, 51, 52, 53, 54, 55, 56, 57, 45, 95]⟩ : ByteArray)).bind fun t1036 => (some (t1036.toList == ([] : List UInt8)))) else (some false)))) = some r := h
  clear h
  by_cases c2 : a0.toList = ([42] : List UInt8)
  · rw [if_pos c2] at H
    have c2b0 : (a0.toList == ([42] : List UInt8)) = true := beq_iff_eq.mpr c2
    have c2b1 : (a0.toList != ([42] : List UInt8)) = false := bne_eq_false_iff_eq.mpr c2
    clear c2
    obtain rfl := Option.some.inj H
    go_enter Tryz.func102, Tryz.ntmps102
    go_wp2
    go_ret
    exact ⟨by first | rfl | (simp [errW_none, errW_some] <;> rfl) | (simp [*, errW_none, errW_some] <;> rfl), by repeat (first | (with_reducible first | exact HB.out | apply below_alloc | apply pw_below_drewN | apply below_drew1) | exact HB.out)⟩
  · rw [if_neg c2] at H
    have c2b0 : (a0.toList == ([42] : List UInt8)) = false := beq_eq_false_iff_ne.mpr c2
    have c2b1 : (a0.toList != ([42] : List UInt8)) = true := bne_iff_ne.mpr c2
    replace H := Option.bind_eq_some_iff.mp H
    obtain ⟨t1035, A30, H⟩ := H
    replace H : (if t1035 = true then ((strings_Trim.f a0 (⟨#[97, 98, 99, 100, 101, 102, 103, 104, 105, 106, 107, 108, 109, 110, 111, 112, 113, 114, 115, 116, 117, 118, 119, 120, 121, 122, 48, 49, 50, 51, 52, 53, 54, 55, 56, 57, 45, 95]⟩ : ByteArray)).bind fun t1036 => (some (t1036.toList == ([] : List UInt8)))) else (some false)) = some r := H
    have A3 := Aside0.mk A30
    clear A30
    by_cases c4 : t1035 = true
    · subst c4
      have H1 : ((strings_Trim.f a0 (⟨#[97, 98, 99, 100, 101, 102, 103, 104, 105, 106, 107, 108, 109, 110, 111, 112, 113, 114, 115, 116, 117, 118, 119, 120, 121, 122, 48, 49, 50, 51, 52, 53, 54, 55, 56, 57, 45, 95]⟩ : ByteArray)).bind fun t1036 => (some (t1036.toList == ([] : List UInt8)))) = some r := by rw [if_pos rfl] at H; exact H
      clear H
      have H := H1
      clear H1
      replace H := Option.bind_eq_some_iff.mp H
      obtain ⟨t1036, A50, H⟩ := H
      replace H : (some (t1036.toList == ([] : List UInt8))) = some r := H
      have A5 := Aside0.mk A50
      clear A50
      obtain rfl := Option.some.inj H
      go_enter Tryz.func102, Tryz.ntmps102
      go_wp2_with (first | ((with_reducible refine gate_callee (f := 78) rfl ?_); refine goesL_ (some 7) rfl rfl Tryz.func78 (by kernel_rfl) rfl #[.int .i64 (a0.size : Int), .int .i64 1, .int .i64 20] rfl (by (try simp only [List.map_toArray, List.map_cons, List.map_nil]); first | done | rfl | (simp only [List.length_drop, List.length_take]; rfl)) ?_; (with_reducible refine (impl_within.calls (a0.size : Int) 1 20 true _ A3.out).mono ?_); rintro e w' ⟨rfl, ⟨nd, rfl⟩⟩; refine ⟨_, rfl, ?_⟩) | (go_at_call 119; (with_reducible refine (strings_Trim.calls a0 (⟨#[97, 98, 99, 100, 101, 102, 103, 104, 105, 106, 107, 108, 109, 110, 111, 112, 113, 114, 115, 116, 117, 118, 119, 120, 121, 122, 48, 49, 50, 51, 52, 53, 54, 55, 56, 57, 45, 95]⟩ : ByteArray) t1036 _ A5.out).mono ?_); rintro e w6 ⟨rfl, hb⟩; have n0_ := Aside0.mk (below_step bq0_ hb); clear HB; have HB := n0_; clear n0_; (try clear hb); (try clear hb2); (try clear hk); (try clear hi)))
      go_ret
      exact ⟨by first | rfl | (simp [errW_none, errW_some] <;> rfl) | (simp [*, errW_none, errW_some] <;> rfl), by repeat (first | (with_reducible first | exact HB.out | apply below_alloc | apply pw_below_drewN | apply below_drew1) | exact HB.out)⟩
    · replace c4 := Bool.eq_false_iff.mpr c4
      subst c4
      have H1 : (some false) = some r := by rw [if_neg (show ¬ (false = true) by decide)] at H; exact H
      clear H
      have H := H1
      clear H1
      obtain rfl := Option.some.inj H
      go_enter Tryz.func102, Tryz.ntmps102
      go_wp2_with (first | ((with_reducible refine gate_callee (f := 78) rfl ?_); refine goesL_ (some 7) rfl rfl Tryz.func78 (by kernel_rfl) rfl #[.int .i64 (a0.size : Int), .int .i64 1, .int .i64 20] rfl (by (try simp only [List.map_toArray, List.map_cons, List.map_nil]); first | done | rfl | (simp only [List.length_drop, List.length_take]; rfl)) ?_; (with_reducible refine (impl_within.calls (a0.size : Int) 1 20 false _ A3.out).mono ?_); rintro e w' ⟨rfl, ⟨nd, rfl⟩⟩; refine ⟨_, rfl, ?_⟩))
      go_ret
      exact ⟨by first | rfl | (simp [errW_none, errW_some] <;> rfl) | (simp [*, errW_none, errW_some] <;> rfl), by repeat (first | (with_reducible first | exact HB.out | apply below_alloc | apply pw_below_drewN | apply below_drew1) | exact HB.out)⟩

end Go.Proofs.YtkpkfallgjdkmaaGreatDoor.P

-- F101
-- By my own call of the kit's print (wip/tools/pp.py).
namespace Go.Proofs.YtkpkfallgjdkmaaGreatDoor.P
open Go.RowKit Go.Proofs.YtkpkfallgjdkmaaGreatDoorW.PrintWords Go.Proofs.YtkpkfallgjdkmaaGreatDoorW.PrintLast Go.Proofs.YtkpkfallgjdkmaaGreatDoorW.PrintMore
attribute [local go_sem] max2_int min2_int max_two min_two max_three min_three max_four min_four
set_option linter.unusedVariables false
set_option linter.unusedSimpArgs false

/-! ### impl_GoodName_1: function 101 -/
def impl_GoodName_1.f (a0 : ByteArray) : Option (Bool) := (impl_isLabel.f a0).bind fun t1039 => (some (!t1039))
set_option maxHeartbeats 8000000 in
set_option maxRecDepth 100000 in
theorem impl_GoodName_1.calls (a0 : ByteArray) (r : Bool) (w : World) (h : impl_GoodName_1.f a0 = some r) :
    Calls Tryz.prog 101 #[.string a0] w fun e w' => e = .returned (.bool r) ∧ Below w.heap.size w w' := by
  have HB := Aside0.mk (Below.refl w.heap.size w)
  have H : ((impl_isLabel.f a0).bind fun t1039 => (some (!t1039))) = some r := h
  clear h
  replace H := Option.bind_eq_some_iff.mp H
  obtain ⟨t1039, A20, H⟩ := H
  replace H : (some (!t1039)) = some r := H
  have A2 := Aside0.mk A20
  clear A20
  obtain rfl := Option.some.inj H
  go_enter Tryz.func101, Tryz.ntmps101
  go_wp2_with (first | ((with_reducible refine gate_callee (f := 102) rfl ?_); refine goesL_ (some 4) rfl rfl Tryz.func102 (by kernel_rfl) rfl #[.string a0] rfl (by (try simp only [List.map_toArray, List.map_cons, List.map_nil]); first | done | rfl | (simp only [List.length_drop, List.length_take]; rfl)) ?_; (with_reducible refine (impl_isLabel.calls a0 t1039 _ A2.out).mono ?_); rintro e w3 ⟨rfl, hb⟩; refine ⟨_, rfl, ?_⟩; have n0_ := Aside0.mk (below_step bq0_ hb); clear HB; have HB := n0_; clear n0_; (try clear hb); (try clear hb2); (try clear hk); (try clear hi)))
  go_ret
  exact ⟨by first | rfl | (simp [errW_none, errW_some] <;> rfl) | (simp [*, errW_none, errW_some] <;> rfl), by repeat (first | (with_reducible first | exact HB.out | apply below_alloc | apply pw_below_drewN | apply below_drew1) | exact HB.out)⟩

end Go.Proofs.YtkpkfallgjdkmaaGreatDoor.P

-- F99
-- By my own call of the kit's print (wip/tools/pp.py).
namespace Go.Proofs.YtkpkfallgjdkmaaGreatDoor.P
open Go.RowKit Go.Proofs.YtkpkfallgjdkmaaGreatDoorW.PrintWords Go.Proofs.YtkpkfallgjdkmaaGreatDoorW.PrintLast Go.Proofs.YtkpkfallgjdkmaaGreatDoorW.PrintMore
attribute [local go_sem] max2_int min2_int max_two min_two max_three min_three max_four min_four
set_option linter.unusedVariables false
set_option linter.unusedSimpArgs false

/-! ### impl_labelsOf: function 99 -/
def impl_labelsOf.f (a0 : ByteArray) : Option (List ByteArray) := if a0.toList = ([] : List UInt8) then (some ([] : List ByteArray)) else ((strings_Split.f a0 (⟨#[46]⟩ : ByteArray)).bind fun t192 => (some t192))
set_option maxHeartbeats 8000000 in
set_option maxRecDepth 100000 in
theorem impl_labelsOf.calls (a0 : ByteArray) (r : List ByteArray) (w : World) (h : impl_labelsOf.f a0 = some r) :
    Calls Tryz.prog 99 #[.string a0] w fun e w' => ∃ v0_ : Value, e = .returned (v0_) ∧ Kd.R Kd.string 9 w' w.heap.size (fun _ => True) v0_ r ∧ Below w.heap.size w w' := by
  have HB := Aside0.mk (Below.refl w.heap.size w)
  have H : (if a0.toList = ([] : List UInt8) then (some ([] : List ByteArray)) else ((strings_Split.f a0 (⟨#[46]⟩ : ByteArray)).bind fun t192 => (some t192))) = some r := h
  clear h
  by_cases c2 : a0.toList = ([] : List UInt8)
  · rw [if_pos c2] at H
    have c2b0 : (a0.toList == ([] : List UInt8)) = true := beq_iff_eq.mpr c2
    have c2b1 : (a0.toList != ([] : List UInt8)) = false := bne_eq_false_iff_eq.mpr c2
    clear c2
    obtain rfl := Option.some.inj H
    go_enter Tryz.func99, Tryz.ntmps99
    go_wp2
    go_ret
    exact ⟨_, by first | rfl | (simp [errW_none, errW_some] <;> rfl) | (simp [*, errW_none, errW_some] <;> rfl), by first | exact Kd.R_nil _ _ _ _ _ | exact Kd.N_nil _ _ _ _ _ | exact Kd.V_nil _ _ _ _ _ | exact Kd.Q_nil _ _ _ _ _ | exact Kd.S_nil _ _ _ _ _, by repeat (first | (with_reducible first | exact HB.out | apply below_alloc | apply pw_below_drewN | apply below_drew1) | exact HB.out)⟩
  · rw [if_neg c2] at H
    have c2b0 : (a0.toList == ([] : List UInt8)) = false := beq_eq_false_iff_ne.mpr c2
    have c2b1 : (a0.toList != ([] : List UInt8)) = true := bne_iff_ne.mpr c2
    replace H := Option.bind_eq_some_iff.mp H
    obtain ⟨t192, A30, H⟩ := H
    replace H : (some t192) = some r := H
    have A3 := Aside0.mk A30
    clear A30
    obtain rfl := Option.some.inj H
    go_enter Tryz.func99, Tryz.ntmps99
    go_wp2_with (first | ((with_reducible refine gate_callee (f := 117) rfl ?_); refine goesL_ (some 6) rfl rfl Tryz.func117 (by kernel_rfl) rfl #[.string a0, .string (⟨#[46]⟩ : ByteArray)] rfl (by (try simp only [List.map_toArray, List.map_cons, List.map_nil]); first | done | rfl | (simp only [List.length_drop, List.length_take]; rfl)) ?_; (with_reducible refine (strings_Split.calls a0 (⟨#[46]⟩ : ByteArray) t192 _ A3.out).mono ?_); rintro e w4 ⟨v193, rfl, ho0, hb⟩; refine ⟨_, rfl, ?_⟩; have n0_ := Aside0.mk (Kd.R_lower ho0 (below_size bq0_)); have n1_ := Aside0.mk (below_step bq0_ hb); clear HB; have HO194 := n0_; have HB := n1_; clear n0_ n1_; (try clear hb); (try clear hb2); (try clear hk); (try clear hi); (try clear ho0)))
    go_ret
    exact ⟨_, by first | rfl | (simp [errW_none, errW_some] <;> rfl) | (simp [*, errW_none, errW_some] <;> rfl), by (with_reducible repeat (first | apply Kd.R_alloc | apply Kd.R_drewN | apply Kd.R_drew)); exact HO194.out, by repeat (first | (with_reducible first | exact HB.out | apply below_alloc | apply pw_below_drewN | apply below_drew1) | exact HB.out)⟩

end Go.Proofs.YtkpkfallgjdkmaaGreatDoor.P

-- HGood
/- What a label and a name are: impl.isLabel and impl.GoodName return just isLabelL and goodL, for every text. Conditions: none. -/
namespace Go.Proofs.YtkpkfallgjdkmaaGreatDoor.P
open Go.RowKit Go.Proofs.YtkpkfallgjdkmaaGreatDoorW.PrintWords Go.Proofs.YtkpkfallgjdkmaaGreatDoorW.PrintLast Go.Proofs.YtkpkfallgjdkmaaGreatDoorW.PrintMore
set_option linter.unusedVariables false

theorem within_eq (n a b : Int) : impl_within.f n a b = some (decide (a ≤ n ∧ n ≤ b)) := by
  unfold impl_within.f
  by_cases h : n ≥ a
  · rw [if_pos h]; congr 1; rw [decide_eq_decide]; omega
  · rw [if_neg h]; congr 1; rw [eq_comm, decide_eq_false_iff_not]; omega

theorem cutset_byte (b : UInt8) : (([97, 98, 99, 100, 101, 102, 103, 104, 105, 106, 107, 108, 109, 110, 111, 112, 113, 114, 115, 116, 117, 118, 119, 120, 121, 122, 48, 49, 50, 51, 52, 53, 54, 55, 56, 57, 45, 95] : List UInt8).contains b) = labelByte b := by
  have h : ∀ n : Fin 256, (([97, 98, 99, 100, 101, 102, 103, 104, 105, 106, 107, 108, 109, 110, 111, 112, 113, 114, 115, 116, 117, 118, 119, 120, 121, 122, 48, 49, 50, 51, 52, 53, 54, 55, 56, 57, 45, 95] : List UInt8).contains (UInt8.ofFin n)) = labelByte (UInt8.ofFin n) := by decide +kernel
  exact h b.toFin

theorem isLabel_eq (s : ByteArray) : impl_isLabel.f s = some (isLabelL s.data.toList) := by
  unfold impl_isLabel.f isLabelL
  rw [Lib.toList_data, within_eq]
  by_cases h0 : s.data.toList = [42]
  · rw [if_pos h0, h0]; rfl
  · rw [if_neg h0, show (s.data.toList == [42]) = false from beq_eq_false_iff_ne.mpr h0, Bool.false_or]
    simp only [Option.bind_some]
    have hl : decide ((1 : Int) ≤ (s.size : Int) ∧ (s.size : Int) ≤ 20) = decide (1 ≤ s.data.toList.length ∧ s.data.toList.length ≤ 20) := by
      rw [decide_eq_decide, size_len]; omega
    rw [hl]
    by_cases h1 : 1 ≤ s.data.toList.length ∧ s.data.toList.length ≤ 20
    · rw [decide_eq_true h1, if_pos rfl, Bool.true_and]
      unfold strings_Trim.f
      rw [if_pos (by rw [size_len]; omega), if_pos (by decide), if_pos (by decide)]
      simp only [Option.bind_some]
      congr 1
      rw [Lib.toList_data, mkB_data]
      have ht := trimS_nil s.data.toList [97, 98, 99, 100, 101, 102, 103, 104, 105, 106, 107, 108, 109, 110, 111, 112, 113, 114, 115, 116, 117, 118, 119, 120, 121, 122, 48, 49, 50, 51, 52, 53, 54, 55, 56, 57, 45, 95]
      have ha : s.data.toList.all (([97, 98, 99, 100, 101, 102, 103, 104, 105, 106, 107, 108, 109, 110, 111, 112, 113, 114, 115, 116, 117, 118, 119, 120, 121, 122, 48, 49, 50, 51, 52, 53, 54, 55, 56, 57, 45, 95] : List UInt8).contains ·) = s.data.toList.all labelByte := by
        congr 1
        funext b
        exact cutset_byte b
      rw [ha] at ht
      show (Lib.trimS s.data.toList [97, 98, 99, 100, 101, 102, 103, 104, 105, 106, 107, 108, 109, 110, 111, 112, 113, 114, 115, 116, 117, 118, 119, 120, 121, 122, 48, 49, 50, 51, 52, 53, 54, 55, 56, 57, 45, 95] == []) = _
      cases hb : s.data.toList.all labelByte with
      | true => rw [ht.2 hb]; rfl
      | false =>
        rw [beq_eq_false_iff_ne]
        intro h
        rw [ht.1 h] at hb
        cases hb
    · rw [decide_eq_false h1]
      rfl

theorem labelsOf_eq (s : ByteArray) (h : s.size < 4294967281) : impl_labelsOf.f s = some ((labelsL s.data.toList).map mkB) := by
  unfold impl_labelsOf.f labelsL strings_Split.f
  rw [Lib.toList_data]
  by_cases h0 : s.data.toList = []
  · rw [if_pos h0, if_pos h0]; rfl
  · rw [if_neg h0, if_neg h0, if_pos (show (⟨#[46]⟩ : ByteArray).size = 1 from rfl), if_pos h]; rfl

theorem good_closure (x : ByteArray) (W : World) : Calls Tryz.prog 101 #[.string x] W fun e W' => e = .returned (.bool (!isLabelL x.data.toList)) ∧ Below W.heap.size W W' :=
  impl_GoodName_1.calls x _ W (by unfold impl_GoodName_1.f; rw [isLabel_eq]; rfl)

def impl_GoodName.f (s : ByteArray) : Option Bool := some (goodL s.data.toList)

set_option maxHeartbeats 4000000 in
theorem impl_GoodName.calls (a0 : ByteArray) (r : Bool) (w : World) (h : impl_GoodName.f a0 = some r) :
    Calls Tryz.prog 72 #[.string a0] w fun e w' => e = .returned (.bool r) ∧ Below w.heap.size w w' := by
  have HG : Aside0 (goodL a0.data.toList = r) := ⟨Option.some.inj h⟩
  clear h
  by_cases h1 : 60 < a0.size
  · have hg : goodL a0.data.toList = false := by
      unfold goodL
      rw [decide_eq_false (by rw [← size_len]; omega)]
      rfl
    obtain rfl := hg.symm.trans HG.out
    have h2 : decide (60 < a0.size) = true := decide_eq_true h1
    have h3 : decide ((60 : Int) < (a0.size : Int)) = true := decide_eq_true (by omega)
    clear HG hg h1
    go_enter Tryz.func72, Tryz.ntmps72
    go_wp2
    go_ret
    exact ⟨rfl, Below.refl _ _⟩
  · have h2 : decide (60 < a0.size) = false := decide_eq_false h1
    have h3 : decide ((60 : Int) < (a0.size : Int)) = false := decide_eq_false (by omega)
    have cl := impl_labelsOf.calls a0 _ w (labelsOf_eq a0 (by omega))
    have eg : ∀ args w, (callFunc 101 args).run Tryz.prog w = .ok (.enter 101 args) w := enters_of Tryz.func101 (by kernel_rfl) rfl
    have cc := fun A c W hr => contains_str A c ((labelsL a0.data.toList).map mkB) 101 #[] (fun x => !isLabelL x.data.toList) W hr eg (fun x _ W' _ => good_closure x W')
    have hany : ((labelsL a0.data.toList).map mkB).any (fun x => !isLabelL x.data.toList) = !(labelsL a0.data.toList).all isLabelL := by
      rw [List.any_map, List.not_all_eq_any_not]
      simp [Function.comp_def, mkB_data]
    have hlen : ((labelsL a0.data.toList).map mkB).length = (labelsL a0.data.toList).length := List.length_map ..
    have hgd : goodL a0.data.toList = (decide ((labelsL a0.data.toList).length ≤ 8) && (labelsL a0.data.toList).all isLabelL) := by
      unfold goodL
      rw [decide_eq_true (by rw [← size_len]; omega), Bool.true_and]
    rw [hany] at cc
    rw [hgd] at HG
    generalize (labelsL a0.data.toList).map mkB = ls at cl cc hlen
    generalize (labelsL a0.data.toList).length = n at hlen HG
    generalize (labelsL a0.data.toList).all isLabelL = b at cc HG
    clear h1 hany hgd
    by_cases h8 : ls.length ≤ 8
    · have h8a : decide (ls.length ≤ 8) = true := decide_eq_true h8
      have h8b : decide ((ls.length : Int) ≤ 8) = true := decide_eq_true (by omega)
      have hr : b = r := by
        have := HG.out
        rwa [decide_eq_true (by omega), Bool.true_and] at this
      subst hr
      clear HG hlen h8
      go_enter Tryz.func72, Tryz.ntmps72
      go_wp2_with (first | (go_at_call 99; refine cl.mono ?_; rintro e w1 ⟨v, rfl, hR, hb⟩; obtain ⟨A, c, rfl⟩ := Kd.R_slice hR; have hC := (Kd.R_reads' hR).2.2) | (go_at_call 100; refine (cc A c _ hC).mono ?_; rintro e w2 ⟨rfl, hb2⟩))
      go_ret
      exact ⟨by simp, below_then hb hb.size hb2⟩
    · have h8a : decide (ls.length ≤ 8) = false := decide_eq_false h8
      have h8b : decide ((ls.length : Int) ≤ 8) = false := decide_eq_false (by omega)
      have hr : false = r := by
        have := HG.out
        rwa [decide_eq_false (by omega), Bool.false_and] at this
      subst hr
      clear HG hlen h8
      go_enter Tryz.func72, Tryz.ntmps72
      go_wp2_with (first | (go_at_call 99; refine cl.mono ?_; rintro e w1 ⟨v, rfl, hR, hb⟩; obtain ⟨A, c, rfl⟩ := Kd.R_slice hR; have hC := (Kd.R_reads' hR).2.2))
      go_ret
      exact ⟨rfl, hb⟩
end Go.Proofs.YtkpkfallgjdkmaaGreatDoor.P
