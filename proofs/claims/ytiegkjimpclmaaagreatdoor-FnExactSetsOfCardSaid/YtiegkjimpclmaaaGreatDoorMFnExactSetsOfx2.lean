/- FnExactSetsOf: part 3 of 28 of my texts for this claim, joined; the theorem stands in the last. Conditions: none beyond the statement's. -/
import Derived.Shelf.Strconv.ErrVarAll
import Derived.Shelf.Strconv.Itoa3
import Derived.Shelf.SlSortCmp.NoneTotal
import Derived.Calls
import Derived.RunT
import Derived.Sort.Grow
import Derived.Shelf.Small.Strs
import Derived.Shelf.Strings.OnBuilder
import Derived.Test.YtiegkjimpclmaaaGreatDoorMFnExactSetsOfx1
import Derived.Test.YtiegkjimpclmaaaGreatDoorMFnExactSetsOfx0
namespace Go.Proofs
open Go.Shelf
def Tryz.atoi_ren : Go.Shelf.Ren := ⟨fun | 172 => 86 | 244 => 149 | 245 => 150 | 247 => 190 | 279 => 191 | 280 => 192 | 281 => 193 | 282 => 194 | 287 => 230 | 316 => 231 | 171 => 56 | 205 => 232 | 321 => 258 | 322 => 259 | 243 => 121 | 246 => 172 | 283 => 201 | 284 => 202 | 285 => 203 | 286 => 204 | 129 => 218 | 317 => 244 | 318 => 245 | 319 => 246 | 320 => 247 | 337 => 262 | 338 => 263 | n => n, fun | 9 => 9 | 3 => 3 | 75 => 104 | 76 => 105 | 4 => 4 | 5 => 5 | 167 => 178 | 37 => 43 | 0 => 0 | 85 => 179 | 2 => 2 | 168 => 181 | 53 => 115 | 175 => 213 | 46 => 134 | 210 => 216 | 127 => 169 | 145 => 233 | 143 => 231 | 21 => 21 | 171 => 186 | 173 => 189 | 212 => 221 | 51 => 202 | 20 => 20 | 213 => 222 | 232 => 244 | 233 => 245 | 80 => 128 | n => n, fun | 15 => 1 | 16 => 2 | 17 => 3 | 18 => 6 | 19 => 7 | n => n⟩
theorem Tryz.atoi : Go.Proofs.LaysC.n172 Tryz.prog Tryz.atoi_ren := {
 mixed := by kernel_rfl
 f129 := Tryz.func218.trans (congrArg some (by kernel_rfl))
 f171 := Tryz.func56.trans (congrArg some (by kernel_rfl))
 f172 := Tryz.func86.trans (congrArg some (by kernel_rfl))
 f205 := Tryz.func232.trans (congrArg some (by kernel_rfl))
 f243 := Tryz.func121.trans (congrArg some (by kernel_rfl))
 f244 := Tryz.func149.trans (congrArg some (by kernel_rfl))
 f245 := Tryz.func150.trans (congrArg some (by kernel_rfl))
 f246 := Tryz.func172.trans (congrArg some (by kernel_rfl))
 f247 := Tryz.func190.trans (congrArg some (by kernel_rfl))
 f279 := Tryz.func191.trans (congrArg some (by kernel_rfl))
 f280 := Tryz.func192.trans (congrArg some (by kernel_rfl))
 f281 := Tryz.func193.trans (congrArg some (by kernel_rfl))
 f282 := Tryz.func194.trans (congrArg some (by kernel_rfl))
 f283 := Tryz.func201.trans (congrArg some (by kernel_rfl))
 f284 := Tryz.func202.trans (congrArg some (by kernel_rfl))
 f285 := Tryz.func203.trans (congrArg some (by kernel_rfl))
 f286 := Tryz.func204.trans (congrArg some (by kernel_rfl))
 f287 := Tryz.func230.trans (congrArg some (by kernel_rfl))
 f316 := Tryz.func231.trans (congrArg some (by kernel_rfl))
 f317 := Tryz.func244.trans (congrArg some (by kernel_rfl))
 f318 := Tryz.func245.trans (congrArg some (by kernel_rfl))
 f319 := Tryz.func246.trans (congrArg some (by kernel_rfl))
 f320 := Tryz.func247.trans (congrArg some (by kernel_rfl))
 f321 := Tryz.func258.trans (congrArg some (by kernel_rfl))
 f322 := Tryz.func259.trans (congrArg some (by kernel_rfl))
 f337 := Tryz.func262.trans (congrArg some (by kernel_rfl))
 f338 := Tryz.func263.trans (congrArg some (by kernel_rfl))
 t0 := Tryz.underlying0
 a0 := Tryz.isAgg0
 z0 := Tryz.sizeOf0
 v0 := Tryz.zeroValue0
 t2 := Tryz.underlying2
 a2 := Tryz.isAgg2
 z2 := Tryz.sizeOf2
 v2 := Tryz.zeroValue2
 t3 := Tryz.underlying3
 a3 := Tryz.isAgg3
 z3 := Tryz.sizeOf3
 v3 := Tryz.zeroValue3
 t4 := Tryz.underlying4
 a4 := Tryz.isAgg4
 z4 := Tryz.sizeOf4
 v4 := Tryz.zeroValue4
 t5 := Tryz.underlying5
 a5 := Tryz.isAgg5
 z5 := Tryz.sizeOf5
 v5 := Tryz.zeroValue5
 t9 := Tryz.underlying9
 a9 := Tryz.isAgg9
 z9 := Tryz.sizeOf9
 v9 := Tryz.zeroValue9
 t20 := Tryz.underlying20
 a20 := Tryz.isAgg20
 z20 := Tryz.sizeOf20
 v20 := Tryz.zeroValue20
 t21 := Tryz.underlying21
 a21 := Tryz.isAgg21
 z21 := Tryz.sizeOf21
 v21 := Tryz.zeroValue21
 t37 := Tryz.underlying43
 a37 := Tryz.isAgg43
 z37 := Tryz.sizeOf43
 v37 := Tryz.zeroValue43
 t46 := Tryz.underlying134
 a46 := Tryz.isAgg134
 z46 := Tryz.sizeOf134
 v46 := Tryz.zeroValue134
 t51 := Tryz.underlying202
 a51 := Tryz.isAgg202
 z51 := Tryz.sizeOf202
 v51 := Tryz.zeroValue202
 t53 := Tryz.underlying115
 a53 := Tryz.isAgg115
 z53 := Tryz.sizeOf115
 v53 := Tryz.zeroValue115
 t75 := Tryz.underlying104
 a75 := Tryz.isAgg104
 z75 := Tryz.sizeOf104
 v75 := Tryz.zeroValue104
 t76 := Tryz.underlying105
 a76 := Tryz.isAgg105
 z76 := Tryz.sizeOf105
 v76 := Tryz.zeroValue105
 t85 := Tryz.underlying179
 a85 := Tryz.isAgg179
 z85 := Tryz.sizeOf179
 v85 := Tryz.zeroValue179
 t127 := Tryz.underlying169
 a127 := Tryz.isAgg169
 z127 := Tryz.sizeOf169
 v127 := Tryz.zeroValue169
 t143 := Tryz.underlying231
 a143 := Tryz.isAgg231
 z143 := Tryz.sizeOf231
 v143 := Tryz.zeroValue231
 t145 := Tryz.underlying233
 a145 := Tryz.isAgg233
 z145 := Tryz.sizeOf233
 v145 := Tryz.zeroValue233
 t167 := Tryz.underlying178
 a167 := Tryz.isAgg178
 z167 := Tryz.sizeOf178
 v167 := Tryz.zeroValue178
 t168 := Tryz.underlying181
 a168 := Tryz.isAgg181
 z168 := Tryz.sizeOf181
 v168 := Tryz.zeroValue181
 t171 := Tryz.underlying186
 a171 := Tryz.isAgg186
 z171 := Tryz.sizeOf186
 v171 := Tryz.zeroValue186
 t173 := Tryz.underlying189
 a173 := Tryz.isAgg189
 z173 := Tryz.sizeOf189
 v173 := Tryz.zeroValue189
 t175 := Tryz.underlying213
 a175 := Tryz.isAgg213
 z175 := Tryz.sizeOf213
 v175 := Tryz.zeroValue213
 t210 := Tryz.underlying216
 a210 := Tryz.isAgg216
 z210 := Tryz.sizeOf216
 v210 := Tryz.zeroValue216
 t212 := Tryz.underlying221
 a212 := Tryz.isAgg221
 z212 := Tryz.sizeOf221
 v212 := Tryz.zeroValue221
 t213 := Tryz.underlying222
 a213 := Tryz.isAgg222
 z213 := Tryz.sizeOf222
 t232 := Tryz.underlying244
 a232 := Tryz.isAgg244
 z232 := Tryz.sizeOf244
 v232 := Tryz.zeroValue244
 t233 := Tryz.underlying245
 a233 := Tryz.isAgg245
 z233 := Tryz.sizeOf245
 v233 := Tryz.zeroValue245
 g15 := by kernel_rfl
 g16 := by kernel_rfl
 g17 := by kernel_rfl
 g18 := by kernel_rfl
 g19 := by kernel_rfl
 t80 := Tryz.underlying128
 a80 := Tryz.isAgg128
 z80 := Tryz.sizeOf128
 v80 := Tryz.zeroValue128
 i0 := by kernel_rfl
 i2 := by kernel_rfl
 i3 := by kernel_rfl
 i4 := by kernel_rfl
 i5 := by kernel_rfl
 i9 := by kernel_rfl
 i20 := by kernel_rfl
 i21 := by kernel_rfl
 i37 := by kernel_rfl
 i46 := by kernel_rfl
 i51 := by kernel_rfl
 i53 := by kernel_rfl
 i75 := by kernel_rfl
 i76 := by kernel_rfl
 i80 := by kernel_rfl
 i85 := by kernel_rfl
 i127 := by kernel_rfl
 i143 := by kernel_rfl
 i145 := by kernel_rfl
 i167 := by kernel_rfl
 i168 := by kernel_rfl
 i171 := by kernel_rfl
 i173 := by kernel_rfl
 i175 := by kernel_rfl
 i210 := by kernel_rfl
 i212 := by kernel_rfl
 i232 := by kernel_rfl
 i233 := by kernel_rfl
 m15 := by kernel_rfl
 m16 := by kernel_rfl
 m17 := by kernel_rfl
 m18 := by kernel_rfl
 m19 := by kernel_rfl
 c0 := by kernel_rfl
 c2 := by kernel_rfl
 c3 := by kernel_rfl
 c4 := by kernel_rfl
 c5 := by kernel_rfl
 c9 := by kernel_rfl
 c20 := by kernel_rfl
 c21 := by kernel_rfl
 c37 := by kernel_rfl
 c46 := by kernel_rfl
 c51 := by kernel_rfl
 c53 := by kernel_rfl
 c75 := by kernel_rfl
 c76 := by kernel_rfl
 c80 := by kernel_rfl
 c85 := by kernel_rfl
 c127 := by kernel_rfl
 c143 := by kernel_rfl
 c145 := by kernel_rfl
 c167 := by kernel_rfl
 c168 := by kernel_rfl
 c171 := by kernel_rfl
 c173 := by kernel_rfl
 c175 := by kernel_rfl
 c210 := by kernel_rfl
 c212 := by kernel_rfl
 c213 := by kernel_rfl
 c232 := by kernel_rfl
 c233 := by kernel_rfl }
def Tryz.itoa_ren : Go.Shelf.Ren := ⟨fun | 171 => 56 | 243 => 121 | 246 => 172 | 283 => 201 | 284 => 202 | 285 => 203 | 286 => 204 | 129 => 218 | 317 => 244 | 318 => 245 | 319 => 246 | 320 => 247 | 337 => 262 | 338 => 263 | n => n, fun | 3 => 3 | 9 => 9 | 2 => 2 | 4 => 4 | 171 => 186 | 0 => 0 | 53 => 115 | 37 => 43 | 5 => 5 | 173 => 189 | 212 => 221 | 51 => 202 | 20 => 20 | 213 => 222 | 46 => 134 | 232 => 244 | 233 => 245 | n => n, fun | 17 => 3 | 18 => 6 | 19 => 7 | n => n⟩
theorem Tryz.itoa : Go.Proofs.LaysM.n171 Tryz.prog Tryz.itoa_ren := {
 mixed := by kernel_rfl
 f129 := Tryz.func218.trans (congrArg some (by kernel_rfl))
 f171 := Tryz.func56.trans (congrArg some (by kernel_rfl))
 f243 := Tryz.func121.trans (congrArg some (by kernel_rfl))
 f246 := Tryz.func172.trans (congrArg some (by kernel_rfl))
 f283 := Tryz.func201.trans (congrArg some (by kernel_rfl))
 f284 := Tryz.func202.trans (congrArg some (by kernel_rfl))
 f285 := Tryz.func203.trans (congrArg some (by kernel_rfl))
 f286 := Tryz.func204.trans (congrArg some (by kernel_rfl))
 f317 := Tryz.func244.trans (congrArg some (by kernel_rfl))
 f318 := Tryz.func245.trans (congrArg some (by kernel_rfl))
 f319 := Tryz.func246.trans (congrArg some (by kernel_rfl))
 f320 := Tryz.func247.trans (congrArg some (by kernel_rfl))
 f337 := Tryz.func262.trans (congrArg some (by kernel_rfl))
 f338 := Tryz.func263.trans (congrArg some (by kernel_rfl))
 t0 := Tryz.underlying0
 a0 := Tryz.isAgg0
 z0 := Tryz.sizeOf0
 v0 := Tryz.zeroValue0
 t2 := Tryz.underlying2
 a2 := Tryz.isAgg2
 z2 := Tryz.sizeOf2
 v2 := Tryz.zeroValue2
 t3 := Tryz.underlying3
 a3 := Tryz.isAgg3
 z3 := Tryz.sizeOf3
 v3 := Tryz.zeroValue3
 t4 := Tryz.underlying4
 a4 := Tryz.isAgg4
 z4 := Tryz.sizeOf4
 v4 := Tryz.zeroValue4
 t5 := Tryz.underlying5
 a5 := Tryz.isAgg5
 z5 := Tryz.sizeOf5
 v5 := Tryz.zeroValue5
 t9 := Tryz.underlying9
 a9 := Tryz.isAgg9
 z9 := Tryz.sizeOf9
 v9 := Tryz.zeroValue9
 t20 := Tryz.underlying20
 a20 := Tryz.isAgg20
 z20 := Tryz.sizeOf20
 v20 := Tryz.zeroValue20
 t37 := Tryz.underlying43
 a37 := Tryz.isAgg43
 z37 := Tryz.sizeOf43
 v37 := Tryz.zeroValue43
 t46 := Tryz.underlying134
 a46 := Tryz.isAgg134
 z46 := Tryz.sizeOf134
 v46 := Tryz.zeroValue134
 t51 := Tryz.underlying202
 a51 := Tryz.isAgg202
 z51 := Tryz.sizeOf202
 v51 := Tryz.zeroValue202
 t53 := Tryz.underlying115
 a53 := Tryz.isAgg115
 z53 := Tryz.sizeOf115
 v53 := Tryz.zeroValue115
 t171 := Tryz.underlying186
 a171 := Tryz.isAgg186
 z171 := Tryz.sizeOf186
 v171 := Tryz.zeroValue186
 t173 := Tryz.underlying189
 a173 := Tryz.isAgg189
 z173 := Tryz.sizeOf189
 v173 := Tryz.zeroValue189
 t212 := Tryz.underlying221
 a212 := Tryz.isAgg221
 z212 := Tryz.sizeOf221
 v212 := Tryz.zeroValue221
 t213 := Tryz.underlying222
 a213 := Tryz.isAgg222
 z213 := Tryz.sizeOf222
 t232 := Tryz.underlying244
 a232 := Tryz.isAgg244
 z232 := Tryz.sizeOf244
 v232 := Tryz.zeroValue244
 t233 := Tryz.underlying245
 a233 := Tryz.isAgg245
 z233 := Tryz.sizeOf245
 v233 := Tryz.zeroValue245
 g17 := by kernel_rfl
 g18 := by kernel_rfl
 g19 := by kernel_rfl
 i0 := by kernel_rfl
 i2 := by kernel_rfl
 i3 := by kernel_rfl
 i4 := by kernel_rfl
 i5 := by kernel_rfl
 i9 := by kernel_rfl
 i20 := by kernel_rfl
 i37 := by kernel_rfl
 i46 := by kernel_rfl
 i51 := by kernel_rfl
 i53 := by kernel_rfl
 i171 := by kernel_rfl
 i173 := by kernel_rfl
 i212 := by kernel_rfl
 i232 := by kernel_rfl
 i233 := by kernel_rfl
 m17 := by kernel_rfl
 m18 := by kernel_rfl
 m19 := by kernel_rfl }
def Tryz.sort_ren : Go.Shelf.Ren := ⟨fun | 6 => 138 | 15 => 183 | 14 => 182 | 28 => 217 | 29 => 218 | 20 => 209 | 21 => 210 | 22 => 211 | 23 => 212 | 24 => 213 | 25 => 214 | 26 => 215 | 27 => 216 | 46 => 249 | 47 => 250 | 48 => 251 | 49 => 252 | 50 => 253 | 57 => 264 | n => n, fun | 22 => 27 | 24 => 45 | 25 => 84 | 3 => 3 | 39 => 134 | 0 => 0 | 53 => 202 | 55 => 115 | 4 => 4 | 46 => 196 | 45 => 195 | 50 => 55 | 5 => 5 | 9 => 9 | 66 => 223 | 70 => 227 | 76 => 236 | 77 => 237 | n => n, fun | n => n⟩
theorem Tryz.sort : Go.Proofs.SlLaysF0.n6 Tryz.prog Tryz.sort_ren := {
 mixed := by kernel_rfl
 f6 := ⟨Tryz.f138.name, by decide, Tryz.func138.trans (congrArg some (by kernel_rfl))⟩
 f14 := ⟨Tryz.f182.name, by decide, Tryz.func182.trans (congrArg some (by kernel_rfl))⟩
 f15 := Tryz.func183.trans (congrArg some (by kernel_rfl))
 f20 := ⟨Tryz.f209.name, by decide, Tryz.func209.trans (congrArg some (by kernel_rfl))⟩
 f21 := ⟨Tryz.f210.name, by decide, Tryz.func210.trans (congrArg some (by kernel_rfl))⟩
 f22 := ⟨Tryz.f211.name, by decide, Tryz.func211.trans (congrArg some (by kernel_rfl))⟩
 f23 := ⟨Tryz.f212.name, by decide, Tryz.func212.trans (congrArg some (by kernel_rfl))⟩
 f24 := ⟨Tryz.f213.name, by decide, Tryz.func213.trans (congrArg some (by kernel_rfl))⟩
 f25 := ⟨Tryz.f214.name, by decide, Tryz.func214.trans (congrArg some (by kernel_rfl))⟩
 f26 := ⟨Tryz.f215.name, by decide, Tryz.func215.trans (congrArg some (by kernel_rfl))⟩
 f27 := ⟨Tryz.f216.name, by decide, Tryz.func216.trans (congrArg some (by kernel_rfl))⟩
 f28 := Tryz.func217.trans (congrArg some (by kernel_rfl))
 f29 := Tryz.func218.trans (congrArg some (by kernel_rfl))
 f46 := ⟨Tryz.f249.name, by decide, Tryz.func249.trans (congrArg some (by kernel_rfl))⟩
 f47 := Tryz.func250.trans (congrArg some (by kernel_rfl))
 f48 := Tryz.func251.trans (congrArg some (by kernel_rfl))
 f49 := ⟨Tryz.f252.name, by decide, Tryz.func252.trans (congrArg some (by kernel_rfl))⟩
 f50 := ⟨Tryz.f253.name, by decide, Tryz.func253.trans (congrArg some (by kernel_rfl))⟩
 f57 := ⟨Tryz.f264.name, by decide, Tryz.func264.trans (congrArg some (by kernel_rfl))⟩
 t0 := Tryz.underlying0
 a0 := Tryz.isAgg0
 z0 := Tryz.sizeOf0
 v0 := Tryz.zeroValue0
 t3 := Tryz.underlying3
 a3 := Tryz.isAgg3
 z3 := Tryz.sizeOf3
 v3 := Tryz.zeroValue3
 t4 := Tryz.underlying4
 a4 := Tryz.isAgg4
 z4 := Tryz.sizeOf4
 v4 := Tryz.zeroValue4
 t5 := Tryz.underlying5
 a5 := Tryz.isAgg5
 z5 := Tryz.sizeOf5
 v5 := Tryz.zeroValue5
 t9 := Tryz.underlying9
 a9 := Tryz.isAgg9
 z9 := Tryz.sizeOf9
 v9 := Tryz.zeroValue9
 t22 := Tryz.underlying27
 a22 := Tryz.isAgg27
 z22 := Tryz.sizeOf27
 v22 := Tryz.zeroValue27
 t25 := Tryz.underlying84
 a25 := Tryz.isAgg84
 z25 := Tryz.sizeOf84
 v25 := Tryz.zeroValue84
 t39 := Tryz.underlying134
 a39 := Tryz.isAgg134
 z39 := Tryz.sizeOf134
 v39 := Tryz.zeroValue134
 t45 := Tryz.underlying195
 a45 := Tryz.isAgg195
 z45 := Tryz.sizeOf195
 v45 := Tryz.zeroValue195
 t46 := Tryz.underlying196
 a46 := Tryz.isAgg196
 z46 := Tryz.sizeOf196
 v46 := Tryz.zeroValue196
 t50 := Tryz.underlying55
 a50 := Tryz.isAgg55
 z50 := Tryz.sizeOf55
 v50 := Tryz.zeroValue55
 t53 := Tryz.underlying202
 a53 := Tryz.isAgg202
 z53 := Tryz.sizeOf202
 v53 := Tryz.zeroValue202
 t55 := Tryz.underlying115
 a55 := Tryz.isAgg115
 z55 := Tryz.sizeOf115
 v55 := Tryz.zeroValue115
 t66 := Tryz.underlying223
 a66 := Tryz.isAgg223
 z66 := Tryz.sizeOf223
 v66 := Tryz.zeroValue223
 t70 := Tryz.underlying227
 a70 := Tryz.isAgg227
 z70 := Tryz.sizeOf227
 v70 := Tryz.zeroValue227
 t76 := Tryz.underlying236
 a76 := Tryz.isAgg236
 z76 := Tryz.sizeOf236
 v76 := Tryz.zeroValue236
 t77 := Tryz.underlying237
 a77 := Tryz.isAgg237
 z77 := Tryz.sizeOf237
 v77 := Tryz.zeroValue237 }
end Go.Proofs
namespace Go.Proofs.YtiegkjimpclmaaaGreatDoor.Dr
open Go
set_option linter.unusedVariables false
set_option linter.unusedSimpArgs false
theorem ask_up {α : Type} : ∀ (a : Ask α) (w : World), w.drawn ≤ (w.ask a).2.drawn
  | .done a, w => Nat.le_refl _
  | .ask what range k, w => by
    unfold World.ask
    simp only []
    split
    · exact ask_up (k 0) w
    · exact Nat.le_trans (Nat.le_succ _) (ask_up (k _) { w with drawn := w.drawn + 1 })
theorem sys_up (w : World) (c : Sys) : w.drawn ≤ (w.sys c).2.drawn := by
  unfold World.sys
  have h := ask_up (Kernel.perform c w.os) w
  split
  · exact Nat.le_refl _
  · next e => rw [e] at h; exact h
theorem view_up {p : Program} {w : World} {at_ : Addr} {u : TypeId} {k : Addr} {v : Value} {b : Bool} {x : World × List Addr} (h : w.viewStore p at_ u k v b = .ok x) : x.1.drawn = w.drawn := by
  unfold World.viewStore at h
  simp only [bind, Except.bind, pure, Except.pure, throw, throwThe, MonadExceptOf.throw] at h
  repeat' first
    | (simp at h; done)
    | (injection h with h; subst h; rfl)
    | split at h
theorem far_up {p : Program} {w : World} {a : Addr} {v : Value} {b : Bool} {x : World × List Addr} (h : w.farStore p a v b = .ok x) : x.1.drawn = w.drawn := by
  unfold World.farStore at h
  split at h
  · split at h
    · next e => injection h with h; subst h; exact view_up e
    · cases h
  · cases h
theorem freeze_up (w : World) (a : Addr) (n : Nat) : (w.freeze a n).drawn = w.drawn := by
  unfold World.freeze
  split <;> rfl
def RUp {α : Type} (d : Nat) : Result α → Prop
  | .ok _ w => d ≤ w.drawn
  | .halt _ w => d ≤ w.drawn
theorem RUp.le {α : Type} {d e : Nat} {r : Result α} (h : RUp d r) (k : e ≤ d) : RUp e r := by
  cases r <;> exact Nat.le_trans k h
theorem run_up {α : Type} (p : Program) (s : Sem α) : ∀ w : World, RUp w.drawn (s.run p w) := by
  induction s with
  | pure a => intro w; exact Nat.le_refl _
  | load m a k ih =>
    intro w
    simp only [Sem.run]
    split
    · exact ih _ w
    · split
      · exact ih _ w
      · exact Nat.le_refl _
  | store m a v k ih =>
    intro w
    cases v <;> simp only [Sem.run] <;> first
      | exact Nat.le_refl _
      | (split
         · split
           · exact Nat.le_refl _
           · exact (ih _).le (by first | exact Nat.le_refl _ | (rw [World.drawn_setCell]; exact Nat.le_refl _))
         · split
           · next e => exact (ih _).le (Nat.le_of_eq (far_up e).symm)
           · exact Nat.le_refl _)
  | new o k ih => intro w; simp only [Sem.run]; exact ih _ _
  | shape r k ih => intro w; simp only [Sem.run]; exact ih _ w
  | freeze a n k ih => intro w; simp only [Sem.run]; exact (ih _).le (Nat.le_of_eq (freeze_up w a n).symm)
  | frozen a k ih => intro w; simp only [Sem.run]; exact ih _ w
  | getObj r k ih =>
    intro w
    simp only [Sem.run]
    split
    · exact Nat.le_refl _
    · exact ih _ w
    · exact Nat.le_refl _
  | setObj r o k ih =>
    intro w
    simp only [Sem.run]
    split
    · exact Nat.le_refl _
    · exact ih _
    · exact Nat.le_refl _
  | choose q k ih =>
    intro w
    simp only [Sem.run]
    split
    · exact ih _ w
    · exact (ih _ _).le (Nat.le_succ _)
  | sys c k ih => intro w; simp only [Sem.run]; exact (ih _ _).le (sys_up w c)
  | program k ih => intro w; simp only [Sem.run]; exact ih _ w
  | mark m k ih => intro w; simp only [Sem.run]; exact ih w
  | halt h => intro w; exact Nat.le_refl _
theorem runT_up {α : Type} (p : Program) (s : Sem α) (w : World) (es : Array Event) : RUp w.drawn (s.runT p w es).1 := by
  rw [Sem.runT_fst]; exact run_up p s w
theorem ok_up {α : Type} {p : Program} {s : Sem α} {w w' : World} {x : α} (h : s.run p w = .ok x w') : w.drawn ≤ w'.drawn := by
  have := run_up p s w
  rw [h] at this; exact this
theorem halt_up {α : Type} {p : Program} {s : Sem α} {w w' : World} {x : Halt} (h : s.run p w = .halt x w') : w.drawn ≤ w'.drawn := by
  have := run_up p s w
  rw [h] at this; exact this
def GUp (d : Nat) : GStep → Prop
  | .go _ w _ | .comm _ _ _ _ w _ | .spawn _ _ w _ | .count _ w _ | .timer _ _ w _ | .alone _ _ w _ | .newcoro _ _ _ w _ | .coroswitch _ _ _ w _ | .collect _ w _ | .watch _ w _ => d ≤ w.drawn
  | .ended .. => True
theorem GUp.le {d e : Nat} {g : GStep} (h : GUp d g) (k : e ≤ d) : GUp e g := by
  cases g <;> first | trivial | exact Nat.le_trans k h
theorem after_up {d : Nat} {es : Array Event} {g : GStep} (h : GUp d g) : GUp d (GStep.after es g) := by
  cases g <;> exact h
theorem endWith_up (d : Nat) (w : World) (fd : Nat) (t : ByteArray) (o : Outcome) : GUp d (endWith w fd t o) := by
  unfold endWith
  simp only []
  split
  · split <;> trivial
  · trivial
  · trivial
theorem dieOf_up (fr : Frame) (l : List ByteArray) (m : String) (b : Bool) (w : World) : GUp w.drawn (dieOf fr l m b w) := Nat.le_refl _
theorem endThrow_up (fr : Frame) (m : String) (w : World) : GUp w.drawn (endThrow fr m w) := Nat.le_refl _
theorem endPrinting_up (p : Program) (fr : Frame) (v : Value) (w : World) : GUp w.drawn (endPrinting p fr v w) := by
  unfold endPrinting
  simp only []
  split
  · exact Nat.le_refl _
  · trivial
theorem endFatal_up (p : Program) (fr : Frame) (cs : List Frame) (dy : Option Dying) (m : String) (w : World) : GUp w.drawn (endFatal p fr cs dy m w) := by
  unfold endFatal
  simp only []
  split
  · next e => exact (dieOf_up _ _ _ _ _).le (ok_up e)
  · trivial
  · trivial
theorem writeOn_up (p : Program) (fr : Frame) (d : Dying) (f : Fatal) (w : World) : GUp w.drawn (writeOn p fr d f w) := by
  unfold writeOn
  simp only []
  split
  · trivial
  · generalize hr : Sem.runT p _ w _ = r
    have h : RUp w.drawn r.1 := by rw [← hr]; exact runT_up _ _ _ _
    obtain ⟨r, es⟩ := r
    simp only at h
    split
    · next e => injection e with e1 e2; rw [e1] at h; exact h
    · next e => injection e with e1 e2; rw [e1] at h; exact h
    · trivial
    · trivial
theorem ite_up {c : Prop} [Decidable c] {d : Nat} {a b : GStep} (ha : GUp d a) (hb : GUp d b) : GUp d (if c then a else b) := by
  split
  · exact ha
  · exact hb
theorem elim_up {α : Type} {o : Option α} {d : Nat} {a : GStep} {f : α → GStep} (ha : GUp d a) (hf : ∀ x, GUp d (f x)) : GUp d (o.elim a f) := by
  cases o
  · exact ha
  · exact hf _
theorem die_up (p : Program) (fr : Frame) (d : Dying) (w : World) : GUp w.drawn (die p fr d w) := by
  unfold die
  split
  · exact writeOn_up _ _ _ _ _
  · split
    · split
      · exact Nat.le_refl _
      · exact endWith_up _ _ _ _ _
    · simp only []
      split
      · exact Nat.le_refl _
      · split
        · next e => exact ok_up e
        · trivial
      · generalize hr : Sem.runT p _ w _ = r
        have h : RUp w.drawn r.1 := by rw [← hr]; exact runT_up _ _ _ _
        obtain ⟨r, es⟩ := r
        simp only at h ⊢
        refine after_up ?_
        split
        · exact h
        · exact h
        · trivial
        · exact (endPrinting_up _ _ _ _).le h
        · trivial
      · trivial
theorem doReturn_up (p : Program) (main : Bool) (fr : Frame) (cs : List Frame) (dy : Option Dying) (v : Value) (w : World) : GUp w.drawn (doReturn p main fr cs dy v w) := by
  unfold doReturn
  repeat' first
    | exact Nat.le_refl _
    | trivial
    | split
theorem callDeferred_up (p : Program) (fr : Frame) (cs : List Frame) (dy : Option Dying) (d : Deferred) (w : World) : GUp w.drawn (callDeferred p fr cs dy d w) := by
  unfold callDeferred
  refine ite_up ?_ ?_
  · trivial
  · generalize hr : Sem.runT p _ w _ = r
    have h : RUp w.drawn r.1 := by rw [← hr]; exact runT_up _ _ _ _
    obtain ⟨r, es⟩ := r
    simp only at h ⊢
    refine after_up ?_
    repeat' first
      | exact h
      | trivial
      | exact (endFatal_up _ _ _ _ _ _).le h
      | exact (endThrow_up _ _ _).le h
      | split
theorem unwind_up (p : Program) (main : Bool) (fr : Frame) (cs : List Frame) (dy : Option Dying) (w : World) : GUp w.drawn (unwind p main fr cs dy w) := by
  unfold unwind
  split
  · generalize hr : Sem.runT p _ w _ = r
    have h : RUp w.drawn r.1 := by rw [← hr]; exact runT_up _ _ _ _
    obtain ⟨r, es⟩ := r
    simp only at h ⊢
    refine after_up ?_
    split
    · exact h
    · trivial
  · exact callDeferred_up _ _ _ _ _ _
  · split
    · trivial
    · split
      · trivial
      · split
        · exact Nat.le_refl _
        · split
          · split
            · exact Nat.le_refl _
            · split
              · next e => exact ok_up e
              · trivial
              · trivial
          · split
            · exact endPrinting_up _ _ _ _
            · trivial
    · split
      · exact doReturn_up _ _ _ _ _ _ _
      · generalize hr : Sem.runT p _ w _ = r
        have h : RUp w.drawn r.1 := by rw [← hr]; exact runT_up _ _ _ _
        obtain ⟨r, es⟩ := r
        simp only at h ⊢
        refine after_up ?_
        split
        · exact (doReturn_up _ _ _ _ _ _ _).le h
        · trivial
        · trivial
theorem early_up (p : Program) (fr : Frame) (cs : List Frame) (dy : Option Dying) (g : Nat) (w : World) : GUp w.drawn (early p fr cs dy g w) := by
  unfold early
  simp only []
  generalize hr : Sem.run p (choose (Question.early g)) w = r
  have h : RUp w.drawn r := by rw [← hr]; exact run_up _ _ _
  clear hr
  repeat' first
    | exact Nat.le_refl _
    | trivial
    | exact h
    | split
theorem apply_up (p : Program) (listen : Bool) (fr : Frame) (cs : List Frame) (dy : Option Dying) (s : Sem Next) (w : World) : GUp w.drawn (stepG.apply p listen fr cs dy s w) := by
  unfold stepG.apply
  simp only []
  generalize hr : (if listen = true then Sem.runT p s w #[] else (s.run p w, #[])) = r
  have h : RUp w.drawn r.1 := by
    rw [← hr]
    split
    · exact runT_up _ _ _ _
    · exact run_up _ _ _
  obtain ⟨r, es⟩ := r
  simp only at h ⊢
  refine after_up ?_
  repeat' first
    | exact h
    | trivial
    | exact (endFatal_up _ _ _ _ _ _).le h
    | exact (endThrow_up _ _ _).le h
    | exact (early_up _ _ _ _ _ _).le h
    | split
theorem oper_up (p : Program) (listen : Bool) (fr : Frame) (cs : List Frame) (dy : Option Dying) (w : World) : GUp w.drawn (stepG.oper p listen fr cs dy w) := by
  unfold stepG.oper
  repeat' first
    | exact apply_up _ _ _ _ _ _ _
    | trivial
    | split
theorem exec_up (p : Program) (main listen : Bool) (fr : Frame) (cs : List Frame) (dy : Option Dying) (w : World) : GUp w.drawn (stepG.exec p main listen fr cs dy w) := by
  unfold stepG.exec
  simp only []
  repeat' first
    | exact Nat.le_refl _
    | trivial
    | exact apply_up _ _ _ _ _ _ _
    | exact oper_up _ _ _ _ _ _
    | (rename_i e; exact ok_up e)
    | assumption
    | exact (doReturn_up _ _ _ _ _ _ _).le (by assumption)
    | exact (apply_up _ _ _ _ _ _ _).le (by assumption)
    | refine ite_up ?_ ?_
    | refine elim_up ?_ (fun _ => ?_)
    | (generalize hr : Sem.runT p _ w _ = r
       have hh : RUp w.drawn r.1 := by rw [← hr]; exact runT_up _ _ _ _
       clear hr
       obtain ⟨r, es⟩ := r
       simp only at hh ⊢
       refine after_up ?_)
    | split
theorem stepG_up (p : Program) (main : Bool) (g : Goroutine) (w : World) (listen : Bool) : GUp w.drawn (stepG p main g w listen) := by
  unfold stepG
  simp only []
  split
  · exact die_up _ _ _ _
  · exact exec_up _ _ _ _ _ _ _
  · exact unwind_up _ _ _ _ _ _
theorem waiting_up {rest : Rest} {cases : Array CommCase} {w w' : World} (h : waitingAt rest cases w = some w') : w'.drawn = w.drawn := by
  unfold waitingAt at h
  split at h
  · split at h
    · injection h with h; subst h; rfl
    · cases h
  · injection h with h; subst h; rfl
theorem communicate_up (p : Program) (rest : Rest) (gs : Array Goroutine) (i : Nat) (g : Goroutine) (cases : Array CommCase) (blocking : Bool)
    (shape : CommShape) (w : World) (m' : Machine) (h : (communicate p rest gs i g cases blocking shape w).1 = .next m') : w.drawn ≤ m'.world.drawn := by
  unfold communicate at h
  simp only [] at h
  repeat' first
    | (simp at h; done)
    | (simp only [Stepped.next.injEq] at h; subst h; dsimp only
       first
         | exact Nat.le_refl _
         | exact ok_up (by assumption)
         | exact Nat.le_of_eq (waiting_up (by assumption)).symm
         | exact Nat.le_trans (ok_up (by assumption)) (ok_up (by assumption))
         | exact Nat.le_trans (ok_up (by assumption)) (halt_up (by assumption)))
    | split at h
theorem look_up (p : Program) (gs : Array Goroutine) (rest : Rest) (w : World) (m' : Machine)
    (h : look p gs rest w = .next m') : w.drawn ≤ m'.world.drawn := by
  unfold look at h
  simp only [] at h
  repeat' first
    | (simp at h; done)
    | (simp only [Stepped.next.injEq] at h; subst h; dsimp only; exact ok_up (by assumption))
    | split at h
theorem drain_up (w : World) (c : Nat) : (drain w c).2.drawn = w.drawn := by
  unfold drain
  split <;> rfl
theorem retime_up (m : Machine) (k : Nat) (t : Timer) (a b : Nat) : (retime m k t a b).2.world.drawn = m.world.drawn := by
  unfold retime
  dsimp only
  split
  · exact drain_up _ _
  · rfl
theorem named_up {m : Machine} {var : Addr} {f : Nat → Timer → Value × Machine} {x : Value × Machine} (h : timerOp.named m var f = .ok x) : ∃ k t, x = f k t := by
  unfold timerOp.named at h
  split at h
  · injection h with h; exact ⟨_, _, h.symm⟩
  · cases h
theorem opened_up {m m' : Machine} {var : Addr} (h : timerOp.opened m var = some m') : m'.world.drawn = m.world.drawn := by
  unfold timerOp.opened at h
  split at h
  · split at h
    · injection h with h; subst h; rfl
    · cases h
  · injection h with h; subst h; rfl
theorem timerOp_up (m : Machine) (op : TimerOp) (v : Value) (m' : Machine) (h : timerOp m op = .ok (v, m')) : m'.world.drawn = m.world.drawn := by
  cases op with
  | stop var =>
    simp only [timerOp] at h
    obtain ⟨k, t, e⟩ := named_up h
    have := retime_up m k t 0 t.period
    rw [← e] at this; exact this
  | reset var when period =>
    simp only [timerOp] at h
    split at h
    · next m1 e1 =>
      obtain ⟨k, t, e⟩ := named_up h
      have := retime_up m1 k t when period
      rw [← e] at this; exact this.trans (opened_up e1)
    · cases h
  | new t =>
    simp only [timerOp] at h
    repeat' first
      | (simp at h; done)
      | (simp only [Except.ok.injEq, Prod.mk.injEq] at h; obtain ⟨_, rfl⟩ := h; rfl)
      | split at h
  | deadline ctx read write when =>
    simp only [timerOp] at h
    simp only [Except.ok.injEq, Prod.mk.injEq] at h; obtain ⟨_, rfl⟩ := h; rfl
theorem throw_go {fr : Frame} {msg : String} {w w' : World} {g : Goroutine} {es : Array Event} (h : endThrow fr msg w = .go g w' es) : w.drawn ≤ w'.drawn := by
  have := endThrow_up fr msg w
  rw [h] at this; exact this
theorem runT_upM (p : Program) (m m' : Machine) (i : Nat) (b : Bool) (h : (runT p m i b).1 = .next m') : m.world.drawn ≤ m'.world.drawn := by
  simp only [runT] at h
  revert h
  generalize m.gs.swapAt! _ _ = gg
  have hu := stepG_up p (i == 0) gg.1 m.world b
  revert hu
  generalize stepG p _ gg.1 m.world b = s
  intro hu h
  cases s <;> simp only [] at h <;> simp only [GUp] at hu
  all_goals first
    | (simp at h; done)
    | (have := communicate_up _ _ _ _ _ _ _ _ _ _ h; exact Nat.le_trans hu this)
    | (have := look_up _ _ _ _ _ h; exact Nat.le_trans hu this)
    | (simp only [Stepped.next.injEq] at h; subst h; exact hu)
    | (repeat' first
        | (simp at h; done)
        | (simp only [Stepped.next.injEq] at h; subst h; exact hu)
        | (simp only [Stepped.next.injEq] at h; subst h; next e => exact Nat.le_trans hu (Nat.le_of_eq (timerOp_up _ _ _ _ e).symm))
        | (simp only [Stepped.next.injEq] at h; subst h; exact Nat.le_trans hu (throw_go (by assumption)))
        | split at h)
theorem serve_up (p : Program) (m m' : Machine) (k : Nat) (h : serve p m k = .next m') : m.world.drawn ≤ m'.world.drawn := by
  unfold serve at h
  simp only [] at h
  repeat' first
    | (simp at h; done)
    | (simp only [Stepped.next.injEq] at h; subst h; exact Nat.le_refl _)
    | split at h
theorem askOn_upM (p : Program) (m m' : Machine) (ops : Array MemOp) (h : askOn p m = .machine (.next m') ops) : m.world.drawn ≤ m'.world.drawn := by
  unfold askOn at h
  simp only [] at h
  repeat' first
    | (simp at h; done)
    | (simp only [Move.machine.injEq] at h; exact Nat.le_trans (ok_up (by assumption)) (serve_up _ _ _ _ h.1))
    | (simp only [Move.machine.injEq, Stepped.next.injEq] at h; obtain ⟨rfl, _⟩ := h
       try dsimp only [Machine.advanceTo]
       repeat first
         | exact Nat.le_refl _
         | (refine Nat.le_trans ?_ (ok_up (by assumption)); try dsimp only [Machine.advanceTo]))
    | split at h
theorem askOn_upG (p : Program) (m m' : Machine) (i : Nat) (h : askOn p m = .goroutine m' i) : m.world.drawn ≤ m'.world.drawn := by
  unfold askOn at h
  simp only [] at h
  repeat' first
    | (simp at h; done)
    | (simp only [Move.goroutine.injEq] at h; obtain ⟨rfl, _⟩ := h
       try dsimp only [Machine.advanceTo]
       repeat first
         | exact Nat.le_refl _
         | (refine Nat.le_trans ?_ (ok_up (by assumption)); try dsimp only [Machine.advanceTo]))
    | split at h
theorem ask_up2 (p : Program) (m : Machine) :
    (∃ m₂, m.world.drawn ≤ m₂.world.drawn ∧ ask p m = askOn p m₂) ∨ (∃ o w, ask p m = .machine (.ended o w) #[]) := by
  unfold ask
  by_cases hw : m.rest.watch = true
  · rw [if_pos hw]
    cases hc : (choose (.extern "collector.look" 2)).run p m.world with
    | halt h w => exact .inr ⟨_, _, rfl⟩
    | ok k world =>
      have hu := ok_up hc
      rcases k with _ | _ | k
      · exact .inl ⟨{ m with world }, hu, rfl⟩
      · show (∃ m₂, m.world.drawn ≤ m₂.world.drawn ∧ (match look p m.gs m.rest world with | .next m => askOn p m | e => Move.machine e) = askOn p m₂) ∨
          (∃ o w, (match look p m.gs m.rest world with | .next m => askOn p m | e => Move.machine e) = .machine (.ended o w) #[])
        cases hl : look p m.gs m.rest world with
        | next m₂ => exact .inl ⟨m₂, Nat.le_trans hu (look_up _ _ _ _ _ hl), rfl⟩
        | ended o w => exact .inr ⟨o, w, rfl⟩
      · exact .inl ⟨{ m with world }, hu, rfl⟩
  · simp only [hw, Bool.false_eq_true, if_false]
    exact .inl ⟨m, Nat.le_refl _, rfl⟩
theorem ask_upM (p : Program) (m m' : Machine) (ops : Array MemOp) (h : ask p m = .machine (.next m') ops) : m.world.drawn ≤ m'.world.drawn := by
  rcases ask_up2 p m with ⟨m₂, hs, he⟩ | ⟨o, w, he⟩
  · rw [he] at h; exact Nat.le_trans hs (askOn_upM p m₂ m' ops h)
  · rw [he] at h; simp at h
theorem ask_upG (p : Program) (m m' : Machine) (i : Nat) (h : ask p m = .goroutine m' i) : m.world.drawn ≤ m'.world.drawn := by
  rcases ask_up2 p m with ⟨m₂, hs, he⟩ | ⟨o, w, he⟩
  · rw [he] at h; exact Nat.le_trans hs (askOn_upG p m₂ m' i h)
  · rw [he] at h; cases h
theorem move_upM (p : Program) (m m' : Machine) (ops : Array MemOp) (h : move p m = .machine (.next m') ops) : m.world.drawn ≤ m'.world.drawn := by
  unfold move at h
  repeat' first
    | (simp at h; done)
    | (have := ask_upM p _ m' ops h; exact this)
    | split at h
theorem move_upG (p : Program) (m m' : Machine) (i : Nat) (h : move p m = .goroutine m' i) : m.world.drawn ≤ m'.world.drawn := by
  unfold move at h
  repeat' first
    | (simp at h; done)
    | (have := ask_upG p _ m' i h; exact this)
    | (simp only [Move.goroutine.injEq] at h; obtain ⟨rfl, _⟩ := h; exact Nat.le_refl _)
    | split at h
theorem step_up (p : Program) (m m' : Machine) (h : step p m = .next m') : m.world.drawn ≤ m'.world.drawn := by
  simp only [step, stepT] at h
  split at h
  next m₁ i hm => exact Nat.le_trans (move_upG p m m₁ i hm) (runT_upM p m₁ m' i _ h)
  next s ops hm =>
    simp only [] at h
    subst h
    exact move_upM p m m' ops hm
theorem runN_up (p : Program) : ∀ (n : Nat) (m m' : Machine), runN p n m = .next m' → m.world.drawn ≤ m'.world.drawn
  | 0, m, m', h => by injection h with h; subst h; exact Nat.le_refl _
  | n + 1, m, m', h => by
    rw [runN] at h
    cases hs : step p m with
    | next m1 => rw [hs] at h; exact Nat.le_trans (step_up p m m1 hs) (runN_up p n m1 m' h)
    | ended o w => rw [hs] at h; cases h
theorem calls_up {P : Program} {f : FuncId} {args : Array Value} {w : World} {v : Value} {R : World → Prop} (h : Calls P f args w fun e w' => e = .returned v ∧ R w') :
    Calls P f args w fun e w' => e = .returned v ∧ R w' ∧ w.drawn ≤ w'.drawn := by
  intro cs
  obtain ⟨e, w', fr, ⟨rfl, hR⟩, hc, hf, hl⟩ := h cs
  obtain ⟨n, hn⟩ := (show Steps P _ _ from hc)
  exact ⟨_, w', fr, ⟨rfl, hR, runN_up P n _ _ hn⟩, hc, hf, hl⟩
theorem below_grow {w w' : World} (h : Go.RowKit.Below w.heap.size w w') (hd : w.drawn ≤ w'.drawn) : ∃ q os, w' = Go.Sort.grow (w.drewN q) os := by
  obtain ⟨ho, ht, hp, hs, hb⟩ := h
  refine ⟨w'.drawn - w.drawn, w'.heap.extract w.heap.size w'.heap.size, ?_⟩
  have hh : w'.heap = w.heap ++ w'.heap.extract w.heap.size w'.heap.size := by
    refine Array.ext_getElem? fun i => ?_
    rw [Array.getElem?_append]
    split
    · next hi => exact hb i hi
    · next hi =>
      rw [Array.getElem?_extract]
      split
      · next hj => congr 1; omega
      · next hj => exact Array.getElem?_eq_none (by omega)
  cases w
  cases w'
  simp only at ho ht hp hs hb hd hh
  subst ho ht hp
  simp only [Go.Sort.grow, World.drewN, World.mk.injEq]
  exact ⟨hh, trivial, by omega, trivial, trivial⟩
end Go.Proofs.YtiegkjimpclmaaaGreatDoor.Dr
namespace Go.Proofs
open Go.Shelf
def Tryz.lays106_ren : Go.Shelf.Ren := ⟨fun | 106 => 140 | 213 => 184 | 265 => 219 | n => n, fun | 9 => 9 | 3 => 3 | n => n, fun | n => n⟩
theorem Tryz.lays106 : Go.Proofs.Lays.n106 Tryz.prog Tryz.lays106_ren := {
 mixed := by kernel_rfl
 f106 := Tryz.func140.trans (congrArg some (by kernel_rfl))
 f213 := Tryz.func184.trans (congrArg some (by kernel_rfl))
 f265 := Tryz.func219.trans (congrArg some (by kernel_rfl))
 t3 := Tryz.underlying3
 a3 := Tryz.isAgg3
 z3 := Tryz.sizeOf3
 v3 := Tryz.zeroValue3
 t9 := Tryz.underlying9
 a9 := Tryz.isAgg9
 z9 := Tryz.sizeOf9
 v9 := Tryz.zeroValue9 }
def Tryz.lays156_ren : Go.Shelf.Ren := ⟨fun | 156 => 57 | 165 => 122 | 166 => 123 | 169 => 124 | 240 => 173 | 241 => 174 | 276 => 205 | 277 => 206 | n => n, fun | 31 => 78 | 9 => 9 | 3 => 3 | 4 => 4 | 0 => 0 | 20 => 20 | 72 => 138 | 76 => 105 | 70 => 136 | 37 => 43 | 75 => 104 | 127 => 169 | 164 => 191 | 5 => 5 | 80 => 128 | n => n, fun | n => n⟩
end Go.Proofs
namespace Go.Proofs.YtiegkjimpclmaaaGreatDoorW.PrintLast
open Go.Proofs.YtiegkjimpclmaaaGreatDoorW.PrintWords (Aside0)
def needsOf (md : Region.Mode) (o : Oper) : List Nat := (o.after.toList.filter (fun e => Region.binds md e)).map (fun e => e.on)
def clashOf (md : Region.Mode) (ops : Array Oper) (i : Nat) (oi : Oper) : List Nat := (List.range ops.size).filter fun j => !(j == i) && match ops[j]? with
 | some oj => !(oj.after.any (fun e => Region.binds md e && e.on == i) || oi.apart ops oj)
 | none => false
def rtab (md : Region.Mode) (ops : Array Oper) : Bool × List (List Nat × List Nat) := (Region.noSelect ops, (List.range ops.size).map fun i => match ops[i]? with
 | some o => (needsOf md o, clashOf md ops i o)
 | none => ([], []))
def readyAt (T : List (List Nat × List Nat)) (l : List Bool) (i : Nat) : Bool := !l.getD i true && match T[i]? with
 | some r => r.1.all (fun j => l.getD j false)
 | none => false
def readyT (T : List (List Nat × List Nat)) (l : List Bool) : List Nat := (List.range T.length).filter (readyAt T l)
def freeT (T : List (List Nat × List Nat)) (l : List Bool) (i : Nat) : Bool := match T[i]? with
 | some r => r.2.all (fun j => l.getD j true)
 | none => false
def closedT (T : List (List Nat × List Nat)) (l : List Bool) : Bool := (List.range T.length).all fun j => !l.getD j false || match T[j]? with
 | some r => r.1.all (fun k => l.getD k false)
 | none => true
def reachT (T : List (List Nat × List Nat)) (i : Nat) : Nat → Nat → Bool
 | 0, _ => false
 | fuel + 1, d => match T[d]? with
  | some r => r.1.any fun j => j == i || reachT T i fuel j
  | none => false
def lastT (T : List (List Nat × List Nat)) (l : List Bool) (ds : List Nat) (i : Nat) : Bool := ds.all fun d => l.getD d true || reachT T i T.length d
section
variable {md : Region.Mode} {ops : Array Oper} {T : Bool × List (List Nat × List Nat)} {l l' li lj lk : Array Bool} {ds : List Nat} {i j k : Nat}
theorem gd (l : Array Bool) (j : Nat) (b : Bool) : l.getD j b = l.toList.getD j b := by simp [Array.getD_eq_getD_getElem?, List.getD_eq_getElem?_getD]
theorem needs_all (o : Oper) (p : Nat → Bool) : o.after.all (fun e => !Region.binds md e || p e.on) = (needsOf md o).all p := by
 unfold needsOf
 rw [← Array.all_toList]
 induction o.after.toList with
 | nil => rfl
 | cons e r ih =>
  rw [List.all_cons, ih, List.filter_cons]
  cases h : Region.binds md e <;> simp
theorem needs_any (o : Oper) (p : Nat → Bool) : o.after.any (fun e => Region.binds md e && p e.on) = (needsOf md o).any p := by
 unfold needsOf
 rw [← Array.any_toList]
 induction o.after.toList with
 | nil => rfl
 | cons e r ih =>
  rw [List.any_cons, ih, List.filter_cons]
  cases h : Region.binds md e <;> simp
theorem rtab_length : (rtab md ops).2.length = ops.size := by simp [rtab]
theorem rtab_some {o : Oper} (h : ops[i]? = some o) : (rtab md ops).2[i]? = some (needsOf md o, clashOf md ops i o) := by
 have hi := (Array.getElem?_eq_some_iff.1 h).1
 unfold rtab
 rw [List.getElem?_map, List.getElem?_range hi, Option.map_some, h]
theorem rtab_none (h : ops[i]? = none) : (rtab md ops).2[i]? = none := by
 have hi : ops.size ≤ i := Array.getElem?_eq_none_iff.1 h
 exact List.getElem?_eq_none (by rw [rtab_length]; exact hi)
theorem readyAt_eq : readyAt (rtab md ops).2 l.toList i = (!l.getD i true && ((ops[i]?).map (·.after.all fun e => !Region.binds md e || l.getD e.on false)).getD false) := by
 unfold readyAt
 rw [gd]
 cases h : ops[i]? with
 | none => rw [rtab_none h]; rfl
 | some o =>
  rw [rtab_some h]
  simp only [Option.map_some, Option.getD_some]
  rw [← needs_all]
  simp only [gd]
theorem ready_eq : Region.ready md ops l = readyT (rtab md ops).2 l.toList := by
 unfold Region.ready readyT
 rw [rtab_length]
 refine List.filter_congr (fun i _ => ?_)
 rw [readyAt_eq]
theorem free_eq : Region.free md ops l i = freeT (rtab md ops).2 l.toList i := by
 unfold Region.free freeT
 cases h : ops[i]? with
 | none => rw [rtab_none h]
 | some oi =>
  rw [rtab_some h]
  simp only [clashOf]
  rw [List.all_filter]
  congr 1
  funext j
  rw [gd]
  cases hj : ops[j]? with
  | none => cases (j == i) <;> cases (l.toList.getD j true) <;> simp
  | some oj =>
   cases (j == i) <;> cases (l.toList.getD j true) <;> cases (oj.after.any (fun e => Region.binds md e && e.on == i) || oi.apart ops oj) <;> simp_all
theorem closed_eq : Region.closedB md ops l = closedT (rtab md ops).2 l.toList := by
 unfold Region.closedB closedT
 rw [rtab_length]
 congr 1
 funext j
 rw [gd]
 cases h : ops[j]? with
 | none => rw [rtab_none h]
 | some o =>
  rw [rtab_some h]
  simp only
  rw [← needs_all]
  simp only [gd]
theorem reach_eq : ∀ (fuel d : Nat), Region.reachB md ops i fuel d = reachT (rtab md ops).2 i fuel d
 | 0, _ => rfl
 | fuel + 1, d => by
  unfold Region.reachB reachT
  cases h : ops[d]? with
  | none => rw [rtab_none h]
  | some o =>
   rw [rtab_some h]
   simp only
   rw [← needs_any]
   congr 1
   funext e
   rw [reach_eq fuel]
theorem last_eq : Region.lastB md ops l ds i = lastT (rtab md ops).2 l.toList ds i := by
 unfold Region.lastB lastT
 rw [rtab_length]
 congr 1
 funext d
 rw [gd, reach_eq]
theorem readyAt_mem (h : readyAt T.2 l.toList i = true) (hT : rtab md ops = T) : (Region.ready md ops l).contains i = true := by
 subst hT
 rw [ready_eq]
 unfold readyT
 rw [List.contains_iff_mem, List.mem_filter, List.mem_range]
 refine ⟨?_, h⟩
 unfold readyAt at h
 rw [Bool.and_eq_true] at h
 cases hq : (rtab md ops).2[i]? with
 | none => rw [hq] at h; simp at h
 | some r => exact (List.getElem?_eq_some_iff.1 hq).1
theorem set_of (h : (l.toList.set i true == l'.toList) = true) : (l.setIfInBounds i true == l') = true := by
 rw [beq_iff_eq] at h ⊢
 apply Array.ext'
 rw [Array.toList_setIfInBounds]
 exact h
def anyT (T : Bool × List (List Nat × List Nat)) (l l' : List Bool) (i : Nat) : Bool := T.1 && freeT T.2 l i && readyAt T.2 l i && (l.set i true == l')
theorem any_of (hT : rtab md ops = T) (h : anyT T l.toList l'.toList i = true) : anyB md ops l l' i = true := by
 simp only [anyT, Bool.and_eq_true] at h
 obtain ⟨⟨⟨h1, h2⟩, h3⟩, h4⟩ := h
 have h5 := readyAt_mem h3 hT
 have h6 := set_of h4
 subst hT
 simp only [anyB, Bool.and_eq_true]
 exact ⟨⟨⟨h1, by rw [free_eq]; exact h2⟩, h5⟩, h6⟩
def takeT (T : Bool × List (List Nat × List Nat)) (ds : List Nat) (l l' : List Bool) (i : Nat) : Bool := T.1 && freeT T.2 l i && readyAt T.2 l i && closedT T.2 l && lastT T.2 l ds i && (l.set i true == l')
theorem take_of (hT : rtab md ops = T) (h : takeT T ds l.toList l'.toList i = true) : takeB md ops ds l l' i = true := by
 simp only [takeT, Bool.and_eq_true] at h
 obtain ⟨⟨⟨⟨⟨h1, h2⟩, h3⟩, h4⟩, h5⟩, h6⟩ := h
 have h7 := readyAt_mem h3 hT
 have h8 := set_of h6
 subst hT
 simp only [takeB, Bool.and_eq_true]
 exact ⟨⟨⟨⟨⟨h1, by rw [free_eq]; exact h2⟩, h7⟩, by rw [closed_eq]; exact h4⟩, by rw [last_eq]; exact h5⟩, h8⟩
theorem one_of (hT : rtab md ops = T) (h : (readyT T.2 l.toList == [i] && l.toList.set i true == l'.toList) = true) : readyB md ops l l' i = true := by
 simp only [Bool.and_eq_true] at h
 obtain ⟨h1, h2⟩ := h
 subst hT
 simp only [readyB, Bool.and_eq_true]
 exact ⟨by rw [ready_eq]; exact h1, set_of h2⟩
theorem done_of (hT : rtab md ops = T) (h : (readyT T.2 l.toList == []) = true) : (Region.ready md ops l == []) = true := by
 subst hT
 rw [ready_eq]
 exact h
def upM (B : List Nat) (d : Nat) : List Nat → Nat
 | [] => 0
 | n :: r => (2 ^ n ||| (if n < d then B.getD n 0 else 0)) ||| upM B d r
def waitsOk (T : List (List Nat × List Nat)) (B : List Nat) : Bool := (List.range T.length).all fun d => match T[d]? with
 | some r => (B.getD d 0 ||| upM B d r.1) == upM B d r.1
 | none => false
theorem upM_bit {B : List Nat} {d i : Nat} : ∀ {ns : List Nat}, (upM B d ns).testBit i = true → ∃ n ∈ ns, n = i ∨ (n < d ∧ (B.getD n 0).testBit i = true)
 | [], h => by simp [upM] at h
 | n :: r, h => by
  unfold upM at h
  rw [Nat.testBit_or, Nat.testBit_or, Bool.or_eq_true, Bool.or_eq_true] at h
  rcases h with (h | h) | h
  · rw [Nat.testBit_two_pow] at h
    exact ⟨n, List.mem_cons_self, .inl (by simpa using h)⟩
  · by_cases hn : n < d
    · rw [if_pos hn] at h
      exact ⟨n, List.mem_cons_self, .inr ⟨hn, h⟩⟩
    · rw [if_neg hn] at h
      simp at h
  · obtain ⟨m, hm, h2⟩ := upM_bit h
    exact ⟨m, List.mem_cons_of_mem _ hm, h2⟩
theorem reach_bit {T : List (List Nat × List Nat)} {B : List Nat} (hB : waitsOk T B = true) : ∀ (fuel d : Nat), d < fuel → d < T.length → (B.getD d 0).testBit i = true → reachT T i fuel d = true
 | 0, d, h, _, _ => by omega
 | fuel + 1, d, h, hd, hb => by
  have h1 := List.all_eq_true.1 hB d (List.mem_range.2 hd)
  cases hr : T[d]? with
  | none => rw [hr] at h1; simp at h1
  | some r =>
   rw [hr] at h1
   simp only [beq_iff_eq] at h1
   have h2 : (upM B d r.1).testBit i = true := by rw [← h1, Nat.testBit_or, hb, Bool.true_or]
   obtain ⟨n, hn, h3⟩ := upM_bit h2
   unfold reachT
   rw [hr]
   simp only
   rw [List.any_eq_true]
   refine ⟨n, hn, ?_⟩
   rcases h3 with rfl | ⟨h4, h5⟩
   · simp
   · rw [reach_bit hB fuel n (by omega) (by omega) h5, Bool.or_true]
def lastW (T : List (List Nat × List Nat)) (B : List Nat) (l : List Bool) (ds : List Nat) (i : Nat) : Bool := ds.all fun d => l.getD d true || (decide (d < T.length) && (B.getD d 0).testBit i)
def takeW (T : Bool × List (List Nat × List Nat)) (B : List Nat) (ds : List Nat) (l l' : List Bool) (i : Nat) : Bool := T.1 && freeT T.2 l i && readyAt T.2 l i && closedT T.2 l && lastW T.2 B l ds i && (l.set i true == l')
theorem take_ofW {B : List Nat} (hT : rtab md ops = T) (hB : waitsOk T.2 B = true) (h : takeW T B ds l.toList l'.toList i = true) : takeB md ops ds l l' i = true := by
 refine take_of hT ?_
 simp only [takeW, takeT, Bool.and_eq_true] at h ⊢
 obtain ⟨⟨⟨⟨⟨h1, h2⟩, h3⟩, h4⟩, h5⟩, h6⟩ := h
 refine ⟨⟨⟨⟨⟨h1, h2⟩, h3⟩, h4⟩, ?_⟩, h6⟩
 unfold lastW at h5
 unfold lastT
 rw [List.all_eq_true] at h5 ⊢
 intro d hd
 have h7 := h5 d hd
 rw [Bool.or_eq_true, Bool.and_eq_true, decide_eq_true_eq] at h7
 rcases h7 with h7 | ⟨h8, h9⟩
 · rw [h7, Bool.true_or]
 · rw [reach_bit hB _ d h8 h8 h9, Bool.or_true]
theorem with_tabW {P : Program} {Q : Exit → Act → World → Prop} {S : World → Prop} {n : Nat} {a : Act} {w : World} {B : List Nat} (hT : rtab md ops = T) (hB : waitsOk T.2 B = true) (h : Aside0 (rtab md ops = T) → Aside0 (waitsOk T.2 B = true) → wpAnyLast P md ops Q S ds n l a w) : wpAnyLast P md ops Q S ds n l a w := h ⟨hT⟩ ⟨hB⟩
end
def opsIn : Code → Nat → Option (Array Oper)
 | .region id ops _, k => if id == k then some ops else none
 | .seq a b, k => match opsIn a k with
  | some o => some o
  | none => opsIn b k
 | .cond _ a b, k => match opsIn a k with
  | some o => some o
  | none => opsIn b k
 | .block _ c, k => opsIn c k
 | .loop c, k => opsIn c k
 | .scope c, k => opsIn c k
 | .rangeFunc _ _ a b, k => match opsIn a k with
  | some o => some o
  | none => opsIn b k
 | _, _ => none
def opsOf (f : Func) (k : Nat) : Array Oper := ((f.body.bind fun c => opsIn c k)).getD #[]
end Go.Proofs.YtiegkjimpclmaaaGreatDoorW.PrintLast
