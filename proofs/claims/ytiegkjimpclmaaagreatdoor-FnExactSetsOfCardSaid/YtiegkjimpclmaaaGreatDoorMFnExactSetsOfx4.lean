/- FnExactSetsOf: part 5 of 28 of my texts for this claim, joined; the theorem stands in the last. Conditions: none beyond the statement's. -/
import Derived.Test.YtiegkjimpclmaaaGreatDoorMFnExactSetsOfx3
import Derived.Lib.LaidTab
import Derived.Lib.ItoaNum
import Derived.Shelf.AbstractIn
import Derived.ProofKit
import Derived.OpenShut
import Derived.ShutString
import Derived.ChangeOld
import Derived.SizedLaws
import Derived.Lib.SmallJoins
import Derived.Deep.Slices
namespace Go.Proofs.YtiegkjimpclmaaaGreatDoorW.PrintWords
open Go.RowKit
def Foot (P : World → Prop) (W : World) (ok : Nat → Prop) : Prop := ∀ W' : World, (∀ k, ok k → k < W.heap.size → W'.heap[k]? = W.heap[k]?) → P W'
theorem heap_lt {W W1 : World} {k : Nat} (h : W1.heap[k]? = W.heap[k]?) (hlt : k < W.heap.size) : k < W1.heap.size := by
 rw [Array.getElem?_eq_getElem hlt] at h
 exact (Array.getElem?_eq_some_iff.1 h).1
namespace Foot
variable {P Q : World → Prop} {W W1 : World} {ok ok' : Nat → Prop}
theorem now (h : Foot P W ok) : P W := h W (fun _ _ _ => rfl)
theorem mono (h : Foot P W ok) (hok : ∀ k, ok k → ok' k) : Foot P W ok' := fun W' hW => h W' (fun k hk hlt => hW k (hok k hk) hlt)
theorem bound (h : Foot P W ok) : Foot P W (fun k => ok k ∧ k < W.heap.size) := fun W' hW => h W' (fun k hk hlt => hW k ⟨hk, hlt⟩ hlt)
theorem step (h : Foot P W ok) (hm : ∀ k, ok k → k < W.heap.size → W1.heap[k]? = W.heap[k]?) : Foot P W1 ok := fun W' hW => h W' (fun k hk hlt => (hW k hk (heap_lt (hm k hk hlt) hlt)).trans (hm k hk hlt))
theorem imp (h : Foot P W ok) (hi : ∀ W', P W' → Q W') : Foot Q W ok := fun W' hW => hi W' (h W' hW)
theorem old (h : Foot P W ok) (hb : Below W.heap.size W W1) : Foot P W1 (fun k => ok k ∧ k < W.heap.size) := (h.bound).step (fun k _ hlt => hb.block k hlt)
end Foot
namespace Kd
def F {α : Type} (d : Kd α) (W : World) (ok : Nat → Prop) (A : Option Addr) (n : Nat) (xs : List α) : Prop := Foot (fun W => d.C W A n xs) W ok
def FK {α : Type} (d : Kd α) (W : World) (ok : Nat → Prop) (x : α) (c : List Value) : Prop := Foot (fun W => d.K W x c) W ok
section
variable {α β : Type} {d : Kd α} {e base n n' cc g N : Nat} {ok ok' okp S : Nat → Prop} {w w0 w1 W W1 : World} {A A' : Option Addr} {u v v1 : Value} {xs : List α} {xs' : List β} {d' : Kd β} {x : α} {c : List Value}
theorem F_nil (d : Kd α) (W : World) (ok : Nat → Prop) : F d W ok none ([] : List α).length [] := fun W' _ => C_nil d W'
theorem FK_of_M (h : d.M W base ok x c) : FK d W ok x c := fun _ hW => d.K_of_M (M_step h hW)
end
end Kd
end Go.Proofs.YtiegkjimpclmaaaGreatDoorW.PrintWords
namespace Go.Proofs.YtiegkjimpclmaaaGreatDoorW.PrintWords
open Go.RowKit
namespace Kd
def chunks (sz : Nat) (n : Nat) (inner : List Value) : List (List Value) := (List.range n).map fun j => (inner.drop (j * sz)).take sz
theorem chunks_length (sz n : Nat) (inner : List Value) : (chunks sz n inner).length = n := by simp [chunks]
theorem chunks_at {sz n : Nat} {inner : List Value} {j : Nat} (hj : j < n) : (chunks sz n inner)[j]? = some ((inner.drop (j * sz)).take sz) := by simp [chunks, hj]
theorem chunks_get {sz n : Nat} {inner : List Value} {j : Nat} {c : List Value} (h : (chunks sz n inner)[j]? = some c) : c = (inner.drop (j * sz)).take sz := by
 have hj : j < n := by have := (List.getElem?_eq_some_iff.1 h).1; rwa [chunks_length] at this
 rw [chunks_at hj] at h
 injection h with h
 exact h.symm
theorem reps_raw {α : Type} {Rr : α → List Value → Prop} {sz : Nat} {xs : List α} {inner : List Value} (h : Reps Rr sz xs inner) (hR : ∀ x c, Rr x c → c.length = sz ∧ ∀ u ∈ c, u.oneCell' = true) : Reps (fun x cs => cs = x ∧ cs.length = sz ∧ ∀ u ∈ cs, u.oneCell' = true) sz (chunks sz xs.length inner) inner := by
 refine ⟨by rw [chunks_length]; exact h.1, fun j p hj => ?_⟩
 have hjl : j < xs.length := by have := (List.getElem?_eq_some_iff.1 hj).1; rwa [chunks_length] at this
 have hp := chunks_get hj
 exact ⟨hp.symm, hR _ _ (h.2 j _ (List.getElem?_eq_getElem hjl))⟩
section
variable {α : Type} {d : Kd α} {e base n cc g : Nat} {ok ok' okp S : Nat → Prop} {w w1 W W1 : World} {A : Option Addr} {u v v1 : Value} {xs : List α} {x : α} {c : List Value}
def N {α : Type} (d : Kd α) (e : Nat) (w : World) (base : Nat) (ok : Nat → Prop) (v : Value) (xs : List α) : Prop :=
 (∀ k, v.ownBlock = some k → ok k) ∧ ∃ rows : List (List Value), rows.length = xs.length ∧ (raw d.sz).R e w base (fun k => some k = v.ownBlock) v rows ∧ ∀ (j : Nat) (x : α) (c : List Value), xs[j]? = some x → rows[j]? = some c → FK d w (fun k => ok k ∧ some k ≠ v.ownBlock) x c
theorem R_N (h : d.R e w base ok v xs) : N d e w base ok v xs := by
 obtain ⟨h0, inner, ho, hr⟩ := h
 refine ⟨h0, chunks d.sz xs.length inner, chunks_length _ _ _, ⟨fun k hk => hk.symm, inner, by rw [chunks_length]; exact ho, reps_raw hr (fun x c hp => ⟨d.K_len (d.K_of_M hp), d.K_one (d.K_of_M hp)⟩)⟩, fun j x c hx hc => ?_⟩
 rw [chunks_get hc]
 exact FK_of_M (hr.2 j x hx)
theorem N_nil (d : Kd α) (e : Nat) (w : World) (base : Nat) (ok : Nat → Prop) : N d e w base ok (.slice none 0 0) [] := R_N (R_nil _ _ _ _ _)
end
end Kd
end Go.Proofs.YtiegkjimpclmaaaGreatDoorW.PrintWords
namespace Go.Proofs.YtiegkjimpclmaaaGreatDoorW.PrintWords
open Go.RowKit
namespace Kd
section
variable {α : Type} {d : Kd α} {W : World} {g n : Nat} {S ok : Nat → Prop} {A : Option Addr} {ad : Addr} {xs : List α}
end
end Kd
end Go.Proofs.YtiegkjimpclmaaaGreatDoorW.PrintWords
namespace Go.Proofs.YtiegkjimpclmaaaGreatDoorW.PrintWords
open Go.RowKit
namespace Kd
section
variable {α : Type} {d : Kd α} {e base n cap g : Nat} {ok ok' okp : Nat → Prop} {w w1 W : World} {v v1 : Value} {xs ys : List α}
end
section
variable {P : Program} {ops : Array Oper} {rest : List Oper} {o : Oper} {a : Act} {Q : Exit → Act → World → Prop} {Kc : Act → World → Prop} {α : Type}
end
end Kd
end Go.Proofs.YtiegkjimpclmaaaGreatDoorW.PrintWords
namespace Go.Proofs.YtiegkjimpclmaaaGreatDoorW.PrintWords
open Go.RowKit
section
variable {w w' u : World} {m B g : Nat} {o : Obj} {row : Option Nat} {S : Nat → Prop} {a : Addr} {v : Value}
end
namespace Kd
section
variable {α : Type} {d : Kd α} {e base n m : Nat} {ok : Nat → Prop} {w w' : World} {v : Value} {A : Option Addr} {xs : List α}
end
end Kd
end Go.Proofs.YtiegkjimpclmaaaGreatDoorW.PrintWords
namespace Go.Proofs.YtiegkjimpclmaaaGreatDoorW.PrintWords
open Go.RowKit
end Go.Proofs.YtiegkjimpclmaaaGreatDoorW.PrintWords
namespace Go.Proofs.YtiegkjimpclmaaaGreatDoorW.PrintLast
section
variable {ops : Array Oper} {a : Act} {o og : Oper} {g : Nat} {t : Tmp} {u : Bool}
end
end Go.Proofs.YtiegkjimpclmaaaGreatDoorW.PrintLast
namespace Go.Proofs.YtiegkjimpclmaaaGreatDoorW.PrintMore
open Go.RowKit Go.Proofs.YtiegkjimpclmaaaGreatDoorW.PrintWords
namespace Kd
open Go.Proofs.YtiegkjimpclmaaaGreatDoorW.PrintWords.Kd
end Kd
namespace Kd
open Go.Proofs.YtiegkjimpclmaaaGreatDoorW.PrintWords.Kd
section
variable {α : Type} {d : Kd α} {e base g N : Nat} {ok : Nat → Prop} {W w1 : World} {u v : Value} {xs : List α}
end
end Kd
theorem max2_int (k k' : IntKind) (x y : Int) : Builtin.max2 (.int k x) (.int k' y) = pure (.int k (if x < y then y else x)) := by simp only [Builtin.max2, gt_iff_lt]
theorem min2_int (k k' : IntKind) (x y : Int) : Builtin.min2 (.int k x) (.int k' y) = pure (.int k (if y < x then y else x)) := by simp only [Builtin.min2]
theorem max_two (ats : Array TypeId) (ty : TypeId) (a b : Value) : Builtin.max_ ats ty #[a, b] = (Builtin.max2 a b >>= fun s => pure s) := by simp only [Builtin.max_, List.foldlM_cons, List.foldlM_nil]
theorem min_two (ats : Array TypeId) (ty : TypeId) (a b : Value) : Builtin.min_ ats ty #[a, b] = (Builtin.min2 a b >>= fun s => pure s) := by simp only [Builtin.min_, List.foldlM_cons, List.foldlM_nil]
theorem max_three (ats : Array TypeId) (ty : TypeId) (a b c : Value) : Builtin.max_ ats ty #[a, b, c] = (Builtin.max2 a b >>= fun s => Builtin.max2 s c >>= fun s => pure s) := by simp only [Builtin.max_, List.foldlM_cons, List.foldlM_nil]
theorem min_three (ats : Array TypeId) (ty : TypeId) (a b c : Value) : Builtin.min_ ats ty #[a, b, c] = (Builtin.min2 a b >>= fun s => Builtin.min2 s c >>= fun s => pure s) := by simp only [Builtin.min_, List.foldlM_cons, List.foldlM_nil]
theorem max_four (ats : Array TypeId) (ty : TypeId) (a b c d : Value) : Builtin.max_ ats ty #[a, b, c, d] = (Builtin.max2 a b >>= fun s => Builtin.max2 s c >>= fun s => Builtin.max2 s d >>= fun s => pure s) := by simp only [Builtin.max_, List.foldlM_cons, List.foldlM_nil]
theorem min_four (ats : Array TypeId) (ty : TypeId) (a b c d : Value) : Builtin.min_ ats ty #[a, b, c, d] = (Builtin.min2 a b >>= fun s => Builtin.min2 s c >>= fun s => Builtin.min2 s d >>= fun s => pure s) := by simp only [Builtin.min_, List.foldlM_cons, List.foldlM_nil]
end Go.Proofs.YtiegkjimpclmaaaGreatDoorW.PrintMore
namespace Go.Proofs.YtiegkjimpclmaaaGreatDoorW.PrintWords
open Go.RowKit
section
variable {P : Program} {ops : Array Oper} {rest : List Oper} {o : Oper} {a : Act} {Q : Exit → Act → World → Prop} {W : World}
theorem gate_callee {f : FuncId} {as_ : Array Operand} {ts : Array TypeId} (_ho : o.op = .call { callee := .value (.func f), args := as_, argTypes := ts }) (h : wpList P ops Q (o :: rest) a W) : wpList P ops Q (o :: rest) a W := h
theorem gate_builtin {b : Builtin} {xs : Array Operand} {ts : Array TypeId} (_ho : o.op = .call { callee := .builtin b, args := xs, argTypes := ts }) (h : wpList P ops Q (o :: rest) a W) : wpList P ops Q (o :: rest) a W := h
end
def mx (a b : Int) : Int := if a < b then b else a
def mn (a b : Int) : Int := if b < a then b else a
def shl (k : IntKind) (x y : Int) : Int := k.wrap (x * 2 ^ min y.toNat k.bits)
def shr (k : IntKind) (x y : Int) : Int := x / 2 ^ min y.toNat k.bits
theorem shr_small {k : IntKind} {x y j : Int} (h : shr k x y = j) (hy : y ≤ k.bits) : x / 2 ^ y.toNat = j := by rw [← h]; unfold shr; rw [Nat.min_eq_left (by omega)]
theorem drewN_self (w : World) (n : Nat) : w.drewN n = w.drewN n := rfl
theorem cell_unalloc {W : World} {o : Obj} {a : Addr} {v : Value} (h : (W.alloc o).cell? a = some v) (hlt : a.block < W.heap.size) : W.cell? a = some v := (World.cell?_alloc_lt _ _ _ hlt).symm.trans h
theorem cell_grown {W w1 : World} {row : Option Nat} (hg : W.grownBy w1 row) {a : Addr} {v : Value} (h : W.cell? a = some v) (hne : some a.block ≠ row) : w1.cell? a = some v := by
 have := hg.block a.block (World.block_lt_of_cell? W a h) hne
 simpa [World.cell?, this] using h
namespace Kd
section
variable {α : Type} {d : Kd α} {e base : Nat} {ok : Nat → Prop} {W w1 : World} {v : Value} {xs : List α}
end
section
variable {α : Type} {d : Kd α} {e base g n cap : Nat} {ok oki okp : Nat → Prop} {W : World} {xs : List α} {i : Int} {c : List Value}
theorem H_at (h : H d e W base ok (.slice (some ⟨g, 0, none⟩) n cap) xs i oki c) (h0 : 0 ≤ i) (h1 : i < n) : (∀ j u, c[j]? = some u → W.cell? ⟨g, i.toNat * d.sz + j, none⟩ = some u) ∧ ∀ j, W.frozen? ⟨g, i.toNat * d.sz + j, none⟩ = false := by
 obtain ⟨rows, _, hraw, _, _, hcc, _⟩ := H_raw h h0 h1
 obtain ⟨_, _, _, _, hfr⟩ := R_elem hraw [] i h0 h1
 exact ⟨hcc, hfr⟩
theorem S_seg0 (hH : H d e W base ok (.slice (some ⟨g, 0, none⟩) n cap) xs i oki c) (h0 : 0 ≤ i) (h1 : i < n) {seg : List Value} {j : Nat} (hj : j + seg.length ≤ d.sz)
 {x' : α} (hM : d.M W base okp x' (c.take j ++ seg ++ c.drop (j + seg.length))) (hokp : ∀ k, okp k → oki k) :
 S d e (W.setCells g (i.toNat * d.sz + j) seg) base ok (.slice (some ⟨g, 0, none⟩) n cap) (xs.set i.toNat x') ∧ W.grownBy (W.setCells g (i.toNat * d.sz + j) seg) (some g) :=
 S_seg (okg := fun _ => False) (H_mono hH (fun _ hk => ⟨hk, fun h => h⟩)) h0 h1 hj hM (fun k hk => .inl (hokp k hk)) (fun _ hk => hk.elim)
end
section
variable {α : Type} {d : Kd α} {e base b b' g N : Nat} {ok ok1 : Nat → Prop} {W W2 w1 : World} {u v : Value} {xs ys : List α} {S : Nat → Prop}
theorem R_reok (hE : d.E = []) (h : d.R e W base ok1 v xs) (hok : ∀ k, v.ownBlock = some k → ok k) : d.R e W base ok v xs := R_mono (R_tight hE h) (fun k hk => hok k hk.symm)
theorem R_keptB (h : d.R e W base ok v xs) (hk : Kept W W2 S) (hne : ∀ k, ok k → ¬ S k) : d.R e W2 base (fun k => ok k ∧ (¬ S k ∧ k < W.heap.size)) v xs :=
 R_kept (R_mono (R_bound h) (fun k hk => ⟨hk.1, hne k hk.1, hk.2.2.1⟩)) hk (fun _ hk => hk.2.1)
end
end Kd
end Go.Proofs.YtiegkjimpclmaaaGreatDoorW.PrintWords
namespace Go.Proofs.YtiegkjimpclmaaaGreatDoorW.PrintWords
open Go.RowKit
namespace Kd
def V {α : Type} (d : Kd α) (_e : Nat) (W : World) (_base : Nat) (ok : Nat → Prop) (v : Value) (xs : List α) : Prop := ∃ A c, v = .slice A xs.length c ∧ xs.length ≤ c ∧ F d W ok A xs.length xs
section
variable {α β : Type} {d : Kd α} {e base base' n m c g N' lo hi : Nat} {ok ok' S : Nat → Prop} {w W w1 : World} {A : Option Addr} {ad : Addr} {u v v1 : Value} {xs : List α}
theorem V_nil (d : Kd α) (e : Nat) (W : World) (base : Nat) (ok : Nat → Prop) : V d e W base ok (.slice none 0 0) [] := ⟨none, 0, rfl, Nat.le_refl _, F_nil d W ok⟩
end
end Kd
end Go.Proofs.YtiegkjimpclmaaaGreatDoorW.PrintWords
namespace Go.Proofs.YtiegkjimpclmaaaGreatDoor.P
open Go.RowKit Go.Proofs.YtiegkjimpclmaaaGreatDoorW.PrintWords Go.Proofs.YtiegkjimpclmaaaGreatDoorW.PrintLast Go.Proofs.YtiegkjimpclmaaaGreatDoorW.PrintMore
attribute [local go_sem] max2_int min2_int max_two min_two max_three min_three max_four min_four
set_option linter.unusedVariables false
set_option linter.unusedSimpArgs false
def errW : Option Int → Value
 | none => .nilIface
 | some c => .iface 178 (.int .i64 c)
theorem errW_none : errW none = .nilIface := rfl
theorem errW_some (c : Int) : errW (some c) = .iface 178 (.int .i64 c) := rfl
theorem info5 : (Tryz.prog.info? 5).map (fun i => (i.zero, i.size, i.bytes)) = some (some (.int .u8 0), 1, 1) := by kernel_rfl
theorem info9 : (Tryz.prog.info? 9).map (fun i => (i.zero, i.size, i.bytes)) = some (some (.string ⟨#[]⟩), 1, 16) := by kernel_rfl
theorem info45 : (Tryz.prog.info? 45).map (fun i => (i.zero, i.size, i.bytes)) = some (some (.agg #[(.string ⟨#[]⟩), (.int .i64 0), (.int .i64 0), (.string ⟨#[]⟩)]), 4, 48) := by kernel_rfl
theorem info83 : (Tryz.prog.info? 83).map (fun i => (i.zero, i.size, i.bytes)) = some (some (.agg #[(.string ⟨#[]⟩), (.int .i64 0), (.int .i64 0), (.slice none 0 0)]), 4, 56) := by kernel_rfl
def rd_L4 (xs : List (List ByteArray)) (i : Int) : (List ByteArray) := xs.getD i.toNat ([] : List ByteArray)
structure S82 where
 f0 : ByteArray
 f1 : Int
 f2 : Int
 f3 : (List ByteArray)
def z82 : S82 := ⟨(⟨#[]⟩ : ByteArray), (0 : Int), (0 : Int), ([] : List ByteArray)⟩
def k82 : Kd S82 := Kd.iso (Kd.pair Kd.string (Kd.pair (Kd.int .i64) (Kd.pair (Kd.int .i64) (Kd.slice 9 Kd.string)))) (fun x : S82 => (x.f0, x.f1, x.f2, x.f3))
def rd_T82 (xs : List S82) (i : Int) : S82 := xs.getD i.toNat z82
structure S45 where
 f0 : ByteArray
 f1 : Int
 f2 : Int
 f3 : ByteArray
def z45 : S45 := ⟨(⟨#[]⟩ : ByteArray), (0 : Int), (0 : Int), (⟨#[]⟩ : ByteArray)⟩
def k45 : Kd S45 := Kd.iso (Kd.pair Kd.string (Kd.pair (Kd.int .i64) (Kd.pair (Kd.int .i64) Kd.string))) (fun x : S45 => (x.f0, x.f1, x.f2, x.f3))
theorem k45_open {w : World} {x : S45} {cs : List Value} (h : k45.K w x cs) : cs = [.string x.f0, .int .i64 x.f1, .int .i64 x.f2, .string x.f3] := by
 obtain ⟨_, _, rfl, rfl, ⟨_, _, rfl, rfl, ⟨_, _, rfl, rfl, rfl⟩⟩⟩ := h
 exact rfl
theorem k45_openM {w : World} {base : Nat} {ok : Nat → Prop} {x : S45} {cs : List Value} (h : k45.M w base ok x cs) : cs = [.string x.f0, .int .i64 x.f1, .int .i64 x.f2, .string x.f3] := by
 obtain ⟨_, _, rfl, rfl, ⟨_, _, rfl, rfl, ⟨_, _, rfl, rfl, rfl⟩⟩⟩ := h
 exact rfl
theorem k45_mkM (w : World) (base : Nat) (ok : Nat → Prop) (x : S45)  : k45.M w base ok x [.string x.f0, .int .i64 x.f1, .int .i64 x.f2, .string x.f3] := ⟨[.string x.f0], [.int .i64 x.f1, .int .i64 x.f2, .string x.f3], rfl, rfl, ⟨[.int .i64 x.f1], [.int .i64 x.f2, .string x.f3], rfl, rfl, ⟨[.int .i64 x.f2], [.string x.f3], rfl, rfl, rfl⟩⟩⟩
def rd_T45 (xs : List S45) (i : Int) : S45 := xs.getD i.toNat z45
theorem at_T45 {w : World} {A : Option Addr} {n : Nat} {xs : List S45} (h : Kd.C k45 w A n xs) (i : Int) (h0 : 0 ≤ i) (h1 : i < n) : ∃ ad , A = some ad ∧ w.cell? (ad.add (i.toNat * 4)) = some (.string (rd_T45 xs i).f0) ∧ w.cell? ⟨(ad.add (i.toNat * 4)).block, (ad.add (i.toNat * 4)).off + 1, none⟩ = some (.int .i64 (rd_T45 xs i).f1) ∧ w.cell? ⟨(ad.add (i.toNat * 4)).block, (ad.add (i.toNat * 4)).off + 2, none⟩ = some (.int .i64 (rd_T45 xs i).f2) ∧ w.cell? ⟨(ad.add (i.toNat * 4)).block, (ad.add (i.toNat * 4)).off + 3, none⟩ = some (.string (rd_T45 xs i).f3) := by
 obtain ⟨ad, c, e, _, hK, hc0⟩ := Kd.C_get h z45 i h0 h1
 have hc : ∀ j u, c[j]? = some u → w.cell? (ad.add (i.toNat * 4 + j)) = some u := hc0
 obtain rfl := k45_open hK
 exact ⟨ad, e, hc 0 _ rfl, by rw [← add_field _ _ 1 (by omega)]; exact hc 1 _ rfl, by rw [← add_field _ _ 2 (by omega)]; exact hc 2 _ rfl, by rw [← add_field _ _ 3 (by omega)]; exact hc 3 _ rfl⟩
structure S83 where
 f0 : ByteArray
 f1 : Int
 f2 : Int
 f3 : (List ByteArray)
def z83 : S83 := ⟨(⟨#[]⟩ : ByteArray), (0 : Int), (0 : Int), ([] : List ByteArray)⟩
def k83 : Kd S83 := Kd.iso (Kd.pair Kd.string (Kd.pair (Kd.int .i64) (Kd.pair (Kd.int .i64) (Kd.slice 9 Kd.string)))) (fun x : S83 => (x.f0, x.f1, x.f2, x.f3))
theorem k83_open {w : World} {x : S83} {cs : List Value} (h : k83.K w x cs) : ∃ A3 c3, cs = [.string x.f0, .int .i64 x.f1, .int .i64 x.f2, .slice A3 x.f3.length c3] ∧ x.f3.length ≤ c3 ∧ Kd.string.C w A3 x.f3.length x.f3 := by
 obtain ⟨_, _, rfl, rfl, ⟨_, _, rfl, rfl, ⟨_, _, rfl, rfl, ⟨A3, c3, rfl, l3, g3⟩⟩⟩⟩ := h
 exact ⟨A3, c3, rfl, l3, g3⟩
theorem k83_openM {w : World} {base : Nat} {ok : Nat → Prop} {x : S83} {cs : List Value} (h : k83.M w base ok x cs) : ∃ v3, cs = [.string x.f0, .int .i64 x.f1, .int .i64 x.f2, v3] ∧ Kd.string.R 9 w base ok v3 x.f3 := by
 obtain ⟨_, _, rfl, rfl, ⟨_, _, rfl, rfl, ⟨_, _, rfl, rfl, ⟨v3, rfl, g3⟩⟩⟩⟩ := h
 exact ⟨v3, rfl, g3⟩
theorem k83_mkM (w : World) (base : Nat) (ok : Nat → Prop) (x : S83) {v3 : Value} (g3 : Kd.string.R 9 w base ok v3 x.f3) : k83.M w base ok x [.string x.f0, .int .i64 x.f1, .int .i64 x.f2, v3] := ⟨[.string x.f0], [.int .i64 x.f1, .int .i64 x.f2, v3], rfl, rfl, ⟨[.int .i64 x.f1], [.int .i64 x.f2, v3], rfl, rfl, ⟨[.int .i64 x.f2], [v3], rfl, rfl, ⟨v3, rfl, g3⟩⟩⟩⟩
def rd_T83 (xs : List S83) (i : Int) : S83 := xs.getD i.toNat z83
theorem at_T83 {w : World} {A : Option Addr} {n : Nat} {xs : List S83} (h : Kd.C k83 w A n xs) (i : Int) (h0 : 0 ≤ i) (h1 : i < n) : ∃ ad A3 c3, A = some ad ∧ w.cell? (ad.add (i.toNat * 4)) = some (.string (rd_T83 xs i).f0) ∧ w.cell? ⟨(ad.add (i.toNat * 4)).block, (ad.add (i.toNat * 4)).off + 1, none⟩ = some (.int .i64 (rd_T83 xs i).f1) ∧ w.cell? ⟨(ad.add (i.toNat * 4)).block, (ad.add (i.toNat * 4)).off + 2, none⟩ = some (.int .i64 (rd_T83 xs i).f2) ∧ w.cell? ⟨(ad.add (i.toNat * 4)).block, (ad.add (i.toNat * 4)).off + 3, none⟩ = some (.slice A3 (rd_T83 xs i).f3.length c3) ∧ (rd_T83 xs i).f3.length ≤ c3 ∧ Kd.string.C w A3 (rd_T83 xs i).f3.length (rd_T83 xs i).f3 := by
 obtain ⟨ad, c, e, _, hK, hc0⟩ := Kd.C_get h z83 i h0 h1
 have hc : ∀ j u, c[j]? = some u → w.cell? (ad.add (i.toNat * 4 + j)) = some u := hc0
 obtain ⟨A3, c3, rfl, l3, g3⟩ := k83_open hK
 exact ⟨ad, A3, c3, e, hc 0 _ rfl, by rw [← add_field _ _ 1 (by omega)]; exact hc 1 _ rfl, by rw [← add_field _ _ 2 (by omega)]; exact hc 2 _ rfl, by rw [← add_field _ _ 3 (by omega)]; exact hc 3 _ rfl, l3, g3⟩
structure S91 where
 f0 : ByteArray
 f1 : Int
 f2 : Int
 f3 : ByteArray
def z91 : S91 := ⟨(⟨#[]⟩ : ByteArray), (0 : Int), (0 : Int), (⟨#[]⟩ : ByteArray)⟩
def k91 : Kd S91 := Kd.iso (Kd.pair Kd.string (Kd.pair (Kd.int .i64) (Kd.pair (Kd.int .i64) Kd.string))) (fun x : S91 => (x.f0, x.f1, x.f2, x.f3))
theorem k91_open {w : World} {x : S91} {cs : List Value} (h : k91.K w x cs) : cs = [.string x.f0, .int .i64 x.f1, .int .i64 x.f2, .string x.f3] := by
 obtain ⟨_, _, rfl, rfl, ⟨_, _, rfl, rfl, ⟨_, _, rfl, rfl, rfl⟩⟩⟩ := h
 exact rfl
def rd_T91 (xs : List S91) (i : Int) : S91 := xs.getD i.toNat z91
theorem at_T91 {w : World} {A : Option Addr} {n : Nat} {xs : List S91} (h : Kd.C k91 w A n xs) (i : Int) (h0 : 0 ≤ i) (h1 : i < n) : ∃ ad , A = some ad ∧ w.cell? (ad.add (i.toNat * 4)) = some (.string (rd_T91 xs i).f0) ∧ w.cell? ⟨(ad.add (i.toNat * 4)).block, (ad.add (i.toNat * 4)).off + 1, none⟩ = some (.int .i64 (rd_T91 xs i).f1) ∧ w.cell? ⟨(ad.add (i.toNat * 4)).block, (ad.add (i.toNat * 4)).off + 2, none⟩ = some (.int .i64 (rd_T91 xs i).f2) ∧ w.cell? ⟨(ad.add (i.toNat * 4)).block, (ad.add (i.toNat * 4)).off + 3, none⟩ = some (.string (rd_T91 xs i).f3) := by
 obtain ⟨ad, c, e, _, hK, hc0⟩ := Kd.C_get h z91 i h0 h1
 have hc : ∀ j u, c[j]? = some u → w.cell? (ad.add (i.toNat * 4 + j)) = some u := hc0
 obtain rfl := k91_open hK
 exact ⟨ad, e, hc 0 _ rfl, by rw [← add_field _ _ 1 (by omega)]; exact hc 1 _ rfl, by rw [← add_field _ _ 2 (by omega)]; exact hc 2 _ rfl, by rw [← add_field _ _ 3 (by omega)]; exact hc 3 _ rfl⟩
def rd_L9 (xs : List (List S45)) (i : Int) : (List S45) := xs.getD i.toNat ([] : List S45)
theorem bq0_ {b : Nat} {w w' : World} (h : Below b w w' := by repeat (first | (with_reducible first | exact HB.out | apply below_alloc | apply pw_below_drewN | apply below_drew1) | exact HB.out)) : Below b w w' := h
theorem bq1_ {b : Nat} {w w' : World} (h : Below b w w' := by repeat (first | (with_reducible first | exact HB.out | apply below_alloc | apply pw_below_drewN | apply below_drew1 | refine below_set ?_ (Aside0.out (by assumption))) | exact HB.out)) : Below b w w' := h
theorem bkB_ {w0 w w1 : World} {g : Nat} {o : Obj} (BK : Aside0 (w0.heap[g]? = some o)) (hb : Below w.heap.size w w1) (h : w.heap[g]? = some o := by (with_reducible repeat (first | refine blk_drewN ?_ _ | refine blk_drew ?_ | refine blk_alloc ?_ _)); exact Aside0.out (by assumption)) : w1.heap[g]? = some o := blk_below h hb
theorem bk4_ {w : World} {g : Nat} {t : TypeId} {v0 v1 v2 v3 : Value} (h : w.heap[g]? = some (.cells #[v0, v1, v2, v3] t (0, 0))) : w.cell? ⟨g, 0, none⟩ = some v0 ∧ w.cell? ⟨g, 1, none⟩ = some v1 ∧ w.cell? ⟨g, 2, none⟩ = some v2 ∧ w.cell? ⟨g, 3, none⟩ = some v3 ∧ w.frozen? ⟨g, 0, none⟩ = false ∧ w.frozen? ⟨g, 1, none⟩ = false ∧ w.frozen? ⟨g, 2, none⟩ = false ∧ w.frozen? ⟨g, 3, none⟩ = false := ⟨(blk_cell h 0).trans rfl, (blk_cell h 1).trans rfl, (blk_cell h 2).trans rfl, (blk_cell h 3).trans rfl, blk_frozen h 0, blk_frozen h 1, blk_frozen h 2, blk_frozen h 3⟩
end Go.Proofs.YtiegkjimpclmaaaGreatDoor.P
namespace Go.Proofs.YtiegkjimpclmaaaGreatDoor.P
open Go.RowKit Go.Proofs.YtiegkjimpclmaaaGreatDoorW.PrintWords Go.Proofs.YtiegkjimpclmaaaGreatDoorW.PrintLast
set_option linter.unusedVariables false
structure Vars (w : World) : Prop where
 syn : ∃ tp p, w.var? Tryz.prog "strconv.ErrSyntax" = some #[.iface tp p]
 rng : ∃ tp p, w.var? Tryz.prog "strconv.ErrRange" = some #[.iface tp p]
 tab : Lib.TabIs Tryz.prog w "internal/strconv.uint64pow10" .u64 Lib.pow10Tab
theorem var_below {w w' : World} {name : String} {cs : Array Value} (h : w.var? Tryz.prog name = some cs) (hb : Below w.heap.size w w') : w'.var? Tryz.prog name = some cs := by
 unfold World.var? at h ⊢
 obtain ⟨g, hg, h⟩ := Option.bind_eq_some_iff.mp h
 rw [hg, Option.bind_some]
 cases hh : w.heap[g]? with
 | none => rw [hh] at h; cases h
 | some o =>
  rw [hb.block g (Array.getElem?_eq_some_iff.1 hh).1, hh]
  rw [hh] at h
  exact h
theorem Vars.below {w w' : World} (h : Vars w) (hb : Below w.heap.size w w') : Vars w' :=
 ⟨h.syn.imp fun _ h => h.imp fun _ h => var_below h hb, h.rng.imp fun _ h => h.imp fun _ h => var_below h hb, var_below h.tab hb⟩
end Go.Proofs.YtiegkjimpclmaaaGreatDoor.P
namespace Go.Proofs.YtiegkjimpclmaaaGreatDoor.P
open Go.RowKit Go.Proofs.YtiegkjimpclmaaaGreatDoorW.PrintWords Go.Proofs.YtiegkjimpclmaaaGreatDoorW.PrintLast Go.Proofs.YtiegkjimpclmaaaGreatDoorW.PrintMore
attribute [local go_sem] max2_int min2_int max_two min_two max_three min_three max_four min_four
set_option linter.unusedVariables false
set_option linter.unusedSimpArgs false
def IsS117 (w0 W : World) (g : Nat) (f0 : List Int) (f1 : Int) (f2 : Int) : Prop := ∃ A0 c0, W.heap[g]? = some (.cells #[.slice A0 f0.length c0, .int .i64 f1, .int .u64 f2] 117 (0, 0)) ∧ w0.heap.size ≤ g ∧ Kd.C (Kd.int .u8) w0 A0 f0.length f0
theorem IsS117.grown {w0 W : World} {g : Nat} {f0 : List Int} {f1 : Int} {f2 : Int} {W1 : World} {row : Option Nat} (h : IsS117 w0 W g f0 f1 f2) (hw : W.grownBy W1 row) (hne : some g ≠ row) : IsS117 w0 W1 g f0 f1 f2 := by
 obtain ⟨A0, c0, hb, hg, hr0⟩ := h
 exact ⟨A0, c0, blk_grown hb hw hne, hg, hr0⟩
theorem IsS117.kept {w0 W : World} {g : Nat} {f0 : List Int} {f1 : Int} {f2 : Int} {W1 : World} {S : Nat → Prop} (h : IsS117 w0 W g f0 f1 f2) (hk : Kept W W1 S) (hne : ¬ S g) : IsS117 w0 W1 g f0 f1 f2 := by
 obtain ⟨A0, c0, hb, hg, hr0⟩ := h
 exact ⟨A0, c0, blk_kept hb hk hne, hg, hr0⟩
theorem IsS117.below {w0 W : World} {g : Nat} {f0 : List Int} {f1 : Int} {f2 : Int} {W1 : World} (h : IsS117 w0 W g f0 f1 f2) (hw : Below W.heap.size W W1) : IsS117 w0 W1 g f0 f1 f2 := h.grown (grown_of_below hw none) (by simp)
theorem IsS117.alloc {w0 W : World} {g : Nat} {f0 : List Int} {f1 : Int} {f2 : Int} (h : IsS117 w0 W g f0 f1 f2) (o : Obj) : IsS117 w0 (W.alloc o) g f0 f1 f2 := h.below (below_alloc (Below.refl _ _) o)
theorem IsS117.drewN {w0 W : World} {g : Nat} {f0 : List Int} {f1 : Int} {f2 : Int} (h : IsS117 w0 W g f0 f1 f2) (m : Nat) : IsS117 w0 (W.drewN m) g f0 f1 f2 := h
theorem IsS117.drew {w0 W : World} {g : Nat} {f0 : List Int} {f1 : Int} {f2 : Int} (h : IsS117 w0 W g f0 f1 f2) : IsS117 w0 W.drew g f0 f1 f2 := h
theorem IsS117.at_ {w0 W : World} {g : Nat} {f0 : List Int} {f1 : Int} {f2 : Int} {w' : World} {m : Nat} (hq : W.drewN m = w') (h : IsS117 w0 W g f0 f1 f2) : IsS117 w0 w' g f0 f1 f2 := by subst hq; exact IsS117.drewN h m
theorem IsS117.apart {w0 W : World} {g : Nat} {f0 : List Int} {f1 : Int} {f2 : Int} {α : Type} {d : Kd α} {e : Nat} {base : Nat} {ok : Nat → Prop} {v : Value} {xs : List α} (h : IsS117 w0 W g f0 f1 f2) (ho : d.R e W base ok v xs) (ht : ∀ q, q ∈ e :: d.E → q ≠ 117) : d.R e W base (fun k => ok k ∧ k ≠ g) v xs := by
 obtain ⟨A0, c0, hb, hg, hr0⟩ := h
 exact Kd.R_types ho hb ht
theorem IsS117.own_ne {w0 W : World} {g : Nat} {f0 : List Int} {f1 : Int} {f2 : Int} {α : Type} {d : Kd α} {e : Nat} {base : Nat} {ok : Nat → Prop} {v : Value} {xs : List α} (h : IsS117 w0 W g f0 f1 f2) (ho : d.R e W base ok v xs) (ht : e ≠ 117) : some g ≠ v.ownBlock := by
 obtain ⟨A0, c0, hb, hg, hr0⟩ := h
 exact Kd.R_ne ho hb ht
theorem IsS117.lt {w0 W : World} {g : Nat} {f0 : List Int} {f1 : Int} {f2 : Int} (h : IsS117 w0 W g f0 f1 f2) : g < W.heap.size := by
 obtain ⟨A0, c0, hb, hg, hr0⟩ := h
 exact blk_lt hb
theorem IsS117.ge {w0 W : World} {g : Nat} {f0 : List Int} {f1 : Int} {f2 : Int} (h : IsS117 w0 W g f0 f1 f2) : w0.heap.size ≤ g := by
 obtain ⟨A0, c0, hb, hg, hr0⟩ := h
 exact hg
theorem IsS117.far {w0 W : World} {g : Nat} {f0 : List Int} {f1 : Int} {f2 : Int} {p : Addr} (h : IsS117 w0 W g f0 f1 f2) (hne : g ≠ p.block) (u : Value) : IsS117 w0 (W.setCell p u) g f0 f1 f2 := by
 obtain ⟨A0, c0, hb, hg, hr0⟩ := h
 exact ⟨A0, c0, blk_far hb hne u, hg, hr0⟩
theorem IsS117.new (w0 W : World) (A0 : Option Addr) (c0 : Nat) (f0 : List Int) (f1 : Int) (f2 : Int) (hB : Below w0.heap.size w0 W) (hr0 : Kd.C (Kd.int .u8) w0 A0 f0.length f0) : IsS117 w0 (W.alloc (.cells #[.slice A0 f0.length c0, .int .i64 f1, .int .u64 f2] 117)) W.heap.size f0 f1 f2 := ⟨A0, c0, by simpa using heap_alloc_new W _, hB.size, hr0⟩
def spec_l1Cur_next.f (s0_0 : List Int) (s0_1 : Int) (s0_2 : Int) : Option (Int × Int × Int) := if s0_1 < (s0_0.length : Int) then (if 0 ≤ s0_1 then (if (wrap64 (s0_1 + 1)) ≤ (s0_0.length : Int) then (some (wrap64 (rd s0_0 s0_1), wrap64 (s0_1 + 1), IntKind.u64.wrap ((IntKind.u64.wrap ((IntKind.u64.wrap (s0_2 * 6364136223846793005)) + (IntKind.u64.wrap (wrap64 (rd s0_0 s0_1))))) + 1442695040888963407))) else (some (wrap64 (Go.bits .and .u64 ((IntKind.u64.wrap ((IntKind.u64.wrap ((IntKind.u64.wrap (s0_2 * 6364136223846793005)) + (IntKind.u64.wrap (wrap64 (rd s0_0 s0_1))))) + 1442695040888963407)) / 1099511627776) 255), wrap64 (s0_1 + 1), IntKind.u64.wrap ((IntKind.u64.wrap ((IntKind.u64.wrap (s0_2 * 6364136223846793005)) + (IntKind.u64.wrap (wrap64 (rd s0_0 s0_1))))) + 1442695040888963407)))) else (none)) else (if (wrap64 (s0_1 + 1)) ≤ (s0_0.length : Int) then (some (0, wrap64 (s0_1 + 1), IntKind.u64.wrap ((IntKind.u64.wrap ((IntKind.u64.wrap (s0_2 * 6364136223846793005)))) + 1442695040888963407))) else (some (wrap64 (Go.bits .and .u64 ((IntKind.u64.wrap ((IntKind.u64.wrap ((IntKind.u64.wrap (s0_2 * 6364136223846793005)))) + 1442695040888963407)) / 1099511627776) 255), wrap64 (s0_1 + 1), IntKind.u64.wrap ((IntKind.u64.wrap ((IntKind.u64.wrap (s0_2 * 6364136223846793005)))) + 1442695040888963407))))
theorem eqA45 (d : Nat) (w : World) (x0 y0 : ByteArray) (x1 y1 : Int) (x2 y2 : Int) (x3 y3 : ByteArray) :
    (Op.equalIn (d + 2) 45 (.agg #[.string x0, .int .i64 x1, .int .i64 x2, .string x3]) (.agg #[.string y0, .int .i64 y1, .int .i64 y2, .string y3])).run Tryz.prog w = .ok (x0.toList == y0.toList && (x1 == y1 && (x2 == y2 && (x3.toList == y3.toList)))) w := by
  refine eqA_of Tryz.underlying45 (by kernel_rfl) ?_
  refine eqf_cons (by rfl) (by go_simp; rfl) (by go_simp; rfl) (by go_simp) ?_
  refine eqf_cons (by rfl) (by go_simp; rfl) (by go_simp; rfl) (by go_simp) ?_
  refine eqf_cons (by rfl) (by go_simp; rfl) (by go_simp; rfl) (by go_simp) ?_
  exact eqf_last (by rfl) (by go_simp; rfl) (by go_simp; rfl) (by go_simp)
end Go.Proofs.YtiegkjimpclmaaaGreatDoor.P
namespace Go.Proofs.YtiegkjimpclmaaaGreatDoor.P
open Go
set_option linter.unusedSimpArgs false
theorem less_flip : ∀ (x y : List UInt8), (!(Op.bytesLess x y || x == y)) = Op.bytesLess y x
 | [], [] => by simp [Op.bytesLess]
 | _ :: _, [] => by simp [Op.bytesLess]
 | [], _ :: _ => by simp [Op.bytesLess]
 | a :: x, b :: y => by
  have ih := less_flip x y
  unfold Op.bytesLess
  by_cases h1 : a < b
  · have h2 : ¬ b < a := by rw [UInt8.lt_iff_toNat_lt] at h1 ⊢; omega
    have h3 : ¬ a = b := by rintro rfl; rw [UInt8.lt_iff_toNat_lt] at h1; omega
    have h4 : ¬ b = a := fun e => h3 e.symm
    simp [h1, h2, h3, h4]
  · by_cases h2 : b < a
    · have h3 : ¬ a = b := by rintro rfl; rw [UInt8.lt_iff_toNat_lt] at h2; omega
      simp [h1, h2, h3]
    · have h3 : a = b := by rw [UInt8.lt_iff_toNat_lt] at h1 h2; apply UInt8.toNat_inj.1; omega
      subst h3
      simp at ih ⊢
      simpa [h1] using ih
theorem gtr_less (t : TypeId) (a b : ByteArray) : binOp .gtr t (.string a) (.string b) = pure (.bool (Op.bytesLess b.toList a.toList)) := by
 rw [← less_flip]
 simp [binOp, Op.stringOp]
end Go.Proofs.YtiegkjimpclmaaaGreatDoor.P
namespace Go.Proofs.YtiegkjimpclmaaaGreatDoor.P
open Go.Shelf Go.RowKit Go.Proofs.YtiegkjimpclmaaaGreatDoorW.PrintWords Go.Proofs.YtiegkjimpclmaaaGreatDoorW.PrintLast Go.Proofs.YtiegkjimpclmaaaGreatDoorW.PrintMore
set_option linter.unusedVariables false
theorem reps_strs (R : ByteArray → List Value → Prop) (hR : ∀ x, R x [.string x]) (l : List ByteArray) : Reps R 1 l (l.map Value.string) := by
 refine ⟨by simp, fun j p hj => ?_⟩
 have h : ((l.map Value.string).drop (j * 1)).take 1 = [.string p] := by
  rw [Nat.mul_one]
  have h2 : (l.map Value.string)[j]? = some (.string p) := by rw [List.getElem?_map, hj]; rfl
  obtain ⟨h3, h4⟩ := List.getElem?_eq_some_iff.1 h2
  rw [List.drop_eq_getElem_cons h3, h4]
  rfl
 rw [h]
 exact hR p
theorem R_strs (W : World) (base t : Nat) (l : List ByteArray) (hb : base ≤ W.heap.size) (hm : l.length ≤ 9223372036854775807) :
 Kd.R Kd.string t (W.alloc (.cells (l.map Value.string).toArray t)) base (fun _ => True) (.slice (some ⟨W.heap.size, 0, none⟩) l.length l.length) l :=
 ⟨fun _ _ => trivial, OwnRow.lit W base (reps_strs (fun x cs => cs = [.string x]) (fun _ => rfl) l) hb hm⟩
def strings_Split.f (s sep : ByteArray) : Option (List ByteArray) :=
 if sep.size = 1 then (if s.size < 4294967281 then some ((splitL (sep.data.toList.headD 0) s.data.toList).map mkB) else none) else none
theorem strings_Split.calls (a0 a1 : ByteArray) (r : List ByteArray) (w : World) (h : strings_Split.f a0 a1 = some r) :
 Calls Tryz.prog 87 #[.string a0, .string a1] w fun e w' => ∃ v0_ : Value, e = .returned (v0_) ∧ Kd.R Kd.string 9 w' w.heap.size (fun _ => True) v0_ r ∧ Below w.heap.size w w' := by
 unfold strings_Split.f at h
 by_cases h1 : a1.size = 1
 · rw [if_pos h1] at h
   by_cases h2 : a0.size < 4294967281
   · rw [if_pos h2] at h
     obtain ⟨c, rfl⟩ := Lib.one_byte a1 h1
     have h := Option.some.inj h
     rw [show (List.headD (⟨#[c]⟩ : ByteArray).data.toList 0) = c from rfl, ← splitB_one c a0] at h
     have h11 : 1 ≤ (⟨#[c]⟩ : ByteArray).size := Nat.le_refl 1
     have hN := Lib.splitB_all ⟨#[c]⟩ h11 0 _ a0 rfl
     have hcl := Lib.countB_le ⟨#[c]⟩ h11 a0.size a0 (Nat.le_refl _)
     have ei : Lib.indexB a0 ⟨#[c]⟩ = Lib.indexByte a0.data.toList c := Lib.index_one _ _
     have cc := Any.strings_genSplit_core (P := Tryz.prog) { Tryz.lays221 with } (by kernel_rfl) a0 ⟨#[c]⟩ 0 (-1) (Lib.countB a0 ⟨#[c]⟩ + 1) w h2 h11 (Nat.zero_le _)
      (fun x cs hx => (Any.strings_Index_one Tryz.lays143 x c _).mono fun e w' ⟨he, hw⟩ => ⟨by rw [he, Lib.indexB, show (⟨#[c]⟩ : ByteArray).data.toList = [c] from rfl, Lib.index_one], hw⟩)
      ((Any.strings_Count_one Tryz.lays138 a0 c w).mono fun e w' ⟨he, hw⟩ => ⟨by rw [he, Lib.countB, show (⟨#[c]⟩ : ByteArray).data.toList = [c] from rfl, Lib.count_one]; rfl, hw⟩)
      (by decide) (by decide) (by rw [if_pos (by decide)]; omega)
     rw [Nat.add_sub_cancel, hN] at cc
     have e2 : Lib.cellsOf (Lib.splitB ⟨#[c]⟩ 0 (Lib.countB a0 ⟨#[c]⟩) a0) (Lib.countB a0 ⟨#[c]⟩ + 1) = ((Lib.splitB ⟨#[c]⟩ 0 (Lib.countB a0 ⟨#[c]⟩) a0).map Value.string).toArray := by rw [← hN]; exact Lib.cellsOf_full _
     rw [e2, h] at cc
     rw [h] at hN
     rw [← hN] at cc
     have hR := R_strs w w.heap.size 9 r (Nat.le_refl _) (by omega)
     have cc2 : Calls Tryz.prog 148 #[.string a0, .string ⟨#[c]⟩, .int .i64 0, .int .i64 (-1)] w fun e w' => e = .returned (.slice (some ⟨w.heap.size, 0, none⟩) r.length r.length) ∧ w' = w.alloc (.cells (r.map Value.string).toArray 9) := cc
     clear cc hN hcl ei e2 h
     go_enter Tryz.func87, Tryz.ntmps87
     go_wp2_with (go_at_call 148; refine cc2.mono ?_; rintro e w' ⟨rfl, hw⟩; rw [hw])
     go_ret
     exact ⟨_, rfl, hR, below_alloc (Below.refl _ _) _⟩
   · rw [if_neg h2] at h; cases h
 · rw [if_neg h1] at h; cases h
def internal_stringslite_Index.f (s sep : ByteArray) : Option Int :=
 if sep.size = 1 then some (Lib.indexByte s.data.toList (sep.data.toList.headD 0)) else none
theorem internal_stringslite_Index.calls (a0 a1 : ByteArray) (r : Int) (w : World) (h : internal_stringslite_Index.f a0 a1 = some r) :
 Calls Tryz.prog 195 #[.string a0, .string a1] w fun e w' => e = .returned (.int .i64 r) ∧ Drawn0 w w' := by
 unfold internal_stringslite_Index.f at h
 by_cases h1 : a1.size = 1
 · rw [if_pos h1] at h
   obtain ⟨c, rfl⟩ := Lib.one_byte a1 h1
   obtain rfl := Option.some.inj h
   exact (Any.stringslite_Index_one Tryz.lays219 a0 c w).mono fun e w' ⟨he, hw⟩ => ⟨he, by rw [hw]; exact Drawn0.refl _⟩
 · rw [if_neg h1] at h; cases h
def strings_Trim.f (s cs : ByteArray) : Option ByteArray :=
 if s.size ≤ 9223372036854775807 then (if cs.size < 4294967281 then (if cs.data.toList.all (fun b => decide (b.toNat < 128)) = true then some (mkB (Lib.trimS s.data.toList cs.data.toList)) else none) else none) else none
theorem strings_Trim.calls (a0 a1 : ByteArray) (r : ByteArray) (w : World) (h : strings_Trim.f a0 a1 = some r) :
 Calls Tryz.prog 186 #[.string a0, .string a1] w fun e w' => e = .returned (.string r) ∧ Below w.heap.size w w' := by
 unfold strings_Trim.f at h
 by_cases h1 : a0.size ≤ 9223372036854775807
 · by_cases h2 : a1.size < 4294967281
   · by_cases h3 : a1.data.toList.all (fun b => decide (b.toNat < 128)) = true
     · rw [if_pos h1, if_pos h2, if_pos h3] at h
       obtain rfl := Option.some.inj h
       exact Any.strings_Trim_ascii Tryz.lays160 (fun _ => by kernel_rfl) (by kernel_rfl) a0 a1 w h1 h2 (fun j b hj => of_decide_eq_true (List.all_eq_true.1 h3 b (List.mem_of_getElem? hj)))
     · rw [if_pos h1, if_pos h2, if_neg h3] at h; cases h
   · rw [if_pos h1, if_neg h2] at h; cases h
 · rw [if_neg h1] at h; cases h
end Go.Proofs.YtiegkjimpclmaaaGreatDoor.P
namespace Go.Proofs.YtiegkjimpclmaaaGreatDoor.P
open Go.RowKit Go.Proofs.YtiegkjimpclmaaaGreatDoorW.PrintWords Go.Proofs.YtiegkjimpclmaaaGreatDoorW.PrintLast
set_option linter.unusedVariables false
def idxP {α : Type} (p : α → Bool) : List α → Int → Int
 | [], _ => -1
 | x :: xs, i => if p x then i else idxP p xs (i + 1)
theorem idxP_hit {α : Type} (p : α → Bool) (xs : List α) (i : Int) (k : Nat) (x : α) (hk : xs[k]? = some x) (hx : p x = true) (hn : ∀ j y, j < k → xs[j]? = some y → p y = false) : idxP p xs i = i + k := by
 induction xs generalizing i k with
 | nil => simp at hk
 | cons a xs ih =>
  cases k with
  | zero =>
   obtain rfl : a = x := by simpa using hk
   simp [idxP, hx]
  | succ k =>
   have h0 : p a = false := hn 0 a (by omega) (by simp)
   simp only [idxP, h0]
   rw [if_neg (by decide), ih (i + 1) k (by simpa using hk) (fun j y hj hy => hn (j + 1) y (by omega) (by simpa using hy))]
   omega
theorem idxP_miss {α : Type} (p : α → Bool) (xs : List α) (i : Int) (hn : ∀ y ∈ xs, p y = false) : idxP p xs i = -1 := by
 induction xs generalizing i with
 | nil => rfl
 | cons a xs ih =>
  simp only [idxP, hn a List.mem_cons_self]
  rw [if_neg (by decide)]
  exact ih _ fun y hy => hn y (List.mem_cons_of_mem _ hy)
theorem idxP_any {α : Type} (p : α → Bool) (xs : List α) (i : Int) (h0 : 0 ≤ i) : decide (0 ≤ idxP p xs i) = xs.any p := by
 induction xs generalizing i with
 | nil => rfl
 | cons a xs ih =>
  rw [List.any_cons]
  by_cases h : p a = true
  · have e : idxP p (a :: xs) i = i := by simp [idxP, h]
    rw [e, h, Bool.true_or]
    exact decide_eq_true h0
  · have e : idxP p (a :: xs) i = idxP p xs (i + 1) := by simp [idxP, h]
    rw [e, Bool.eq_false_iff.mpr h, Bool.false_or]
    exact ih (i + 1) (by omega)
def PredB {α : Type} (g : Nat) (cb : Array Value) (enc : α → Value) (p : α → Bool) (xs : List α) (w : World) : Prop :=
 ∀ x, x ∈ xs → ∀ W, Below w.heap.size w W → Calls Tryz.prog g (#[enc x] ++ cb) W fun e W' => e = .returned (.bool (p x)) ∧ Below W.heap.size W W'
end Go.Proofs.YtiegkjimpclmaaaGreatDoor.P
namespace Go.Proofs.YtiegkjimpclmaaaGreatDoor.P
open Go.Shelf Go.RowKit Go.Proofs.YtiegkjimpclmaaaGreatDoorW.PrintWords Go.Proofs.YtiegkjimpclmaaaGreatDoorW.PrintLast Go.Proofs.YtiegkjimpclmaaaGreatDoorW.PrintMore
def strings_Compare.f (a b : ByteArray) : Option Int := some (Lib.compareBytes a.data.toList b.data.toList)
theorem strings_Compare.calls (a0 a1 : ByteArray) (r : Int) (w : World) (h : strings_Compare.f a0 a1 = some r) :
 Calls Tryz.prog 140 #[.string a0, .string a1] w fun e w' => e = .returned (.int .i64 r) ∧ Drawn0 w w' := by
 obtain rfl := Option.some.inj h
 exact (Any.strings_Compare Tryz.lays106 a0 a1 w).mono fun e w' ⟨he, hw⟩ => ⟨he, by rw [hw]; exact Drawn0.refl _⟩
end Go.Proofs.YtiegkjimpclmaaaGreatDoor.P
namespace Go.Proofs.YtiegkjimpclmaaaGreatDoor.P
open Go.ChangeShapes Go.WideShapes Go.ChangeAt Go.RowKit Go.Joins Go.Deep Go.Proofs.YtiegkjimpclmaaaGreatDoorW.PrintWords Go.Proofs.YtiegkjimpclmaaaGreatDoorW.PrintLast Go.Proofs.YtiegkjimpclmaaaGreatDoorW.PrintMore
set_option linter.unusedVariables false
set_option linter.unusedSimpArgs false
def Opens {α : Type} (P : Program) (t : TypeId) (d : Kd α) (ok : α → Prop) : Prop :=
 ∀ (H : Type) (enc : TypeId × Value → H) (w : World) (base : Nat) (spare : Nat → Bool) (held : Bool) (fuel : Nat) (cs : List Value) (x : DataW H × List MemPlace),
  DataW.trod enc P w base spare held fuel t cs = some x → ∃ y : α, d.K w y cs ∧ ok y
section
variable {P : Program} {t : TypeId}
theorem opens_text (ht : P.underlying t = some .string) : Opens P t Kd.string (fun s => s.size ≤ maxLen) := by
 intro H enc w base spare held fuel cs x h
 obtain ⟨s, e, _, hs⟩ := DataW.trod_string ht h
 exact ⟨s, e, hs⟩
theorem opens_int {k : IntKind} (ht : P.underlying t = some (.int k)) : Opens P t (Kd.int k) (fun _ => True) := by
 intro H enc w base spare held fuel cs x h
 obtain ⟨s, e, _, _⟩ := DataW.trod_int ht h
 exact ⟨s, e, trivial⟩
theorem opens_slice {α : Type} [Inhabited α] {e : TypeId} {d : Kd α} {ok : α → Prop} (ht : P.underlying t = some (.slice e)) (hc : P.cellsOf e = d.sz) (hd : Opens P e d ok) : Opens P t (Kd.slice e d) (fun l => l.length ≤ maxLen ∧ ∀ y ∈ l, ok y) := by
 intro H enc w base spare held fuel cs x h
 rcases DataW.trod_slice ht h with ⟨rfl, _⟩ | ⟨a, len, cap, elems, rest, n, _, rfl, _, hb, hl, hm, hlen, hel, _, _⟩
 · exact ⟨[], ⟨none, 0, rfl, Nat.le_refl _, rfl, by simp, fun h => absurd h (by simp)⟩, by simp, fun y hy => by cases hy⟩
 · have each : ∀ i, i < len → ∃ y : α, ok y ∧ ∃ c, c.length = d.sz ∧ d.K w y c ∧ ∀ j u, c[j]? = some u → w.cell? (a.add (i * d.sz + j)) = some u := by
    intro i hi
    have hi2 := hel i hi
    rw [List.getElem?_eq_getElem (by omega)] at hi2
    obtain ⟨cs', h1, h2⟩ := Option.bind_eq_some_iff.1 hi2
    obtain ⟨y, hy, hok⟩ := hd H enc w base spare held n cs' _ h2
    obtain ⟨_, hz, hcell⟩ := World.cells?_some h1
    refine ⟨y, hok, cs', by rw [hz, hc], hy, fun j u hu => ?_⟩
    have hj : j < P.cellsOf e := by
     rw [← hz]
     exact (List.getElem?_eq_some_iff.1 hu).1
    rw [← hc, ← Deep.add_add, hcell j hj, hu]
   obtain ⟨f, hf⟩ := choose_lt each
   refine ⟨(List.range len).map f, ⟨some a, cap, by simp, by simpa using hl, rfl, ?_, fun _ => ⟨a, rfl, fun j p hj => ?_⟩⟩, ?_, fun y hy => ?_⟩
   · simp only [List.length_map, List.length_range]
     simp only [maxLen] at hm
     omega
   · obtain ⟨hj2, hj3⟩ := List.getElem?_eq_some_iff.1 hj
     simp only [List.length_map, List.length_range] at hj2
     rw [List.getElem_map, List.getElem_range] at hj3
     subst hj3
     obtain ⟨_, c, c1, c2, c3⟩ := hf j hj2
     exact ⟨c, c1, c2, c3⟩
   · simp only [List.length_map, List.length_range]
     omega
   · obtain ⟨i, hi, rfl⟩ := List.mem_map.1 hy
     exact (hf i (List.mem_range.1 hi)).1
theorem opens_struct4 {α0 α1 α2 α3 : Type} {f0 f1 f2 f3 : Field} {d0 : Kd α0} {d1 : Kd α1} {d2 : Kd α2} {d3 : Kd α3} {k0 : α0 → Prop} {k1 : α1 → Prop} {k2 : α2 → Prop} {k3 : α3 → Prop} (ht : P.underlying t = some (.struct #[f0, f1, f2, f3])) (hone : oneCellFields P #[f0, f1, f2, f3] = true) (hC : P.cellsOf t = 4)
 (h0 : Opens P f0.type d0 k0) (h1 : Opens P f1.type d1 k1) (h2 : Opens P f2.type d2 k2) (h3 : Opens P f3.type d3 k3) :
 Opens P t (Kd.pair d0 (Kd.pair d1 (Kd.pair d2 d3))) (fun x => k0 x.1 ∧ k1 x.2.1 ∧ k2 x.2.2.1 ∧ k3 x.2.2.2) := by
 intro H enc w base spare held fuel cs x h
 obtain ⟨y0, y1, y2, y3, n, _, hl, g0, g1, g2, g3⟩ := trod_struct4 ht h
 rw [hC] at hl
 obtain ⟨o0, p0⟩ := hone_of hone 0 f0 rfl
 obtain ⟨o1, p1⟩ := hone_of hone 1 f1 rfl
 obtain ⟨o2, p2⟩ := hone_of hone 2 f2 rfl
 obtain ⟨o3, p3⟩ := hone_of hone 3 f3 rfl
 rw [o0, p0] at g0
 rw [o1, p1] at g1
 rw [o2, p2] at g2
 rw [o3, p3] at g3
 obtain ⟨z0, c0, e0⟩ := h0 H enc w base spare held n _ _ g0
 obtain ⟨z1, c1, e1⟩ := h1 H enc w base spare held n _ _ g1
 obtain ⟨z2, c2, e2⟩ := h2 H enc w base spare held n _ _ g2
 obtain ⟨z3, c3, e3⟩ := h3 H enc w base spare held n _ _ g3
 refine ⟨(z0, z1, z2, z3), ⟨_, _, ?_, c0, _, _, rfl, c1, _, _, rfl, c2, c3⟩, e0, e1, e2, e3⟩
 match cs, hl with
 | [a, b, c, d], _ => rfl
theorem opens_iso {α β : Type} {d : Kd α} {f : β → α} {k : α → Prop} (g : α → β) (hg : ∀ x, f (g x) = x) (h : Opens P t d k) : Opens P t (Kd.iso d f) (fun x => k (f x)) := by
 intro H enc w base spare held fuel cs x hx
 obtain ⟨y, h1, h2⟩ := h H enc w base spare held fuel cs x hx
 exact ⟨g y, by show d.K w (f (g y)) cs; rw [hg]; exact h1, by show k (f (g y)); rw [hg]; exact h2⟩
theorem Opens.imp {α : Type} {d : Kd α} {k k' : α → Prop} (h : Opens P t d k) (hk : ∀ x, k x → k' x) : Opens P t d k' := by
 intro H enc w base spare held fuel cs x hx
 obtain ⟨y, h1, h2⟩ := h H enc w base spare held fuel cs x hx
 exact ⟨y, h1, hk _ h2⟩
end
end Go.Proofs.YtiegkjimpclmaaaGreatDoor.P
