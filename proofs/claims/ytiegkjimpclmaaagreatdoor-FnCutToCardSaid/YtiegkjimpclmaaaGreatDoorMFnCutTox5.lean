/- FnCutTo: part 6 of 17 of my texts for this claim, joined; the theorem stands in the last. Conditions: none beyond the statement's. -/
import Derived.Test.YtiegkjimpclmaaaGreatDoorMFnCutTox4
import Derived.Laws.BitsAllLaws
open Go.RowKit Go.Proofs.YtiegkjimpclmaaaGreatDoorW.PrintWords Go.Proofs.YtiegkjimpclmaaaGreatDoorW.PrintLast Go.Proofs.YtiegkjimpclmaaaGreatDoorW.PrintMore
set_option linter.unusedVariables false
set_option linter.unusedSimpArgs false
set_option maxHeartbeats 8000000
set_option maxRecDepth 100000
namespace Go.Proofs.YtiegkjimpclmaaaGreatDoor.Pure
open Go.Proofs.YtiegkjimpclmaaaGreatDoor.P
def fg(l:List Int): Prop:=∀ x∈l,0≤x∧x≤255
theorem pr{l:List Int}(h:∀ x∈l,(Lit.int .u8 x).wf=true): fg l:=fun x hx=>by
 simpa [Lit.wf,IntKind.min,IntKind.max,IntKind.signed,IntKind.bits]using h x hx
theorem pP{l:List Int}(h:fg l)(i:Int): 0≤rd l i∧rd l i≤255:=by
 unfold rd;rw[List.getD_eq_getElem?_getD]
 cases e:l[i.toNat]? with
 | none=>simp
 | some x=>exact h x (List.mem_of_getElem? e)
theorem ox(x:Int): 0≤IntKind.u64.wrap x∧IntKind.u64.wrap x<18446744073709551616:=by
 simp[IntKind.wrap,IntKind.bits,IntKind.signed];omega
theorem sG(x:Int): 0≤wrap64 (Go.bits .and .u64 (IntKind.u64.wrap x / 1099511627776) 255)∧wrap64 (Go.bits .and .u64 (IntKind.u64.wrap x / 1099511627776) 255)≤255:=by
 have h:=ox x;generalize IntKind.u64.wrap x=y at h ⊢;rw[u64_and _ _ (by omega) (by omega) (by omega) (by omega)];have hle:(y / 1099511627776).toNat &&& (255:Int).toNat≤255:=Nat.and_le_right;unfold wrap64;omega
def Cur(at_:Int)(n:Nat): Prop:=0≤at_∧at_≤n
theorem kW{l:List Int}(hl:fg l){at_ sd:Int}{n:Nat}(hc:Cur at_ n)(hn:n<4611686018427387904):
 ∃ b at2 sd2,dp.f l at_ sd=some (b,at2,sd2)∧(0≤b∧b≤255)∧Cur at2 (n+1):=by
 have hw:wrap64 (at_+1)=at_+1:=by have:=hc.1;have:=hc.2;unfold wrap64;omega
 have hc2:Cur (at_+1) (n+1):=⟨by have:=hc.1;omega,by have:=hc.2;omega⟩;have hb:=pP hl at_
 have hb2:wrap64 (rd l at_)=rd l at_:=by unfold wrap64;omega
 unfold dp.f;rw[hw]
 by_cases h1:at_<(l.length:Int)
 · rw [if_pos h1, if_pos hc.1, if_pos (by omega)]
   exact⟨_,_,_,rfl,by rw[hb2];exact hb,hc2⟩
 · rw [if_neg h1]
   by_cases h2:at_+1≤(l.length:Int)
   ·omega
   · rw [if_neg h2]
     exact⟨_,_,_,rfl,sG _,hc2⟩
theorem dY{l:List Int}(hl:fg l){at_ sd:Int}{n:Nat}(hc:Cur at_ n)(hn:n<4611686018427387900)(m:Int):
 ∃ x at2 sd2,aM.f l at_ sd m=some (x,at2,sd2)∧(0≤x∧(x=0∨x<m))∧Cur at2 (n+2):=by
 unfold aM.f
 by_cases h1:m≤1
 · rw [if_pos h1]
   exact⟨_,_,_,rfl,⟨by omega,.inl rfl⟩,hc.1,by have:=hc.2;omega⟩
 · rw [if_neg h1]
   obtain⟨b,at2,sd2,e,hb,hc2⟩:=kW hl hc (sd:=sd) (by omega);rw[e];simp only[Option.bind_some]
   have hm0:¬ m=0:=by omega
   by_cases h2:m>200
   · rw [if_pos h2]
     obtain⟨b3,at3,sd3,e3,hb3,hc3⟩:=kW hl hc2 (sd:=sd2) (by omega);rw[e3];simp only[Option.bind_some];rw[if_neg hm0]
     have hw:wrap64 (wrap64 (b*256)+b3)=b*256+b3:=by unfold wrap64;omega
     rw[hw,Int.tmod_eq_emod_of_nonneg (by omega)];exact⟨_,_,_,rfl,⟨Int.emod_nonneg _ hm0,.inr (Int.emod_lt_of_pos _ (by omega))⟩,hc3⟩
   · rw [if_neg h2, if_neg hm0, Int.tmod_eq_emod_of_nonneg hb.1]
     exact⟨_,_,_,rfl,⟨Int.emod_nonneg _ hm0,.inr (Int.emod_lt_of_pos _ (by omega))⟩,hc2.1,by have:=hc2.2;omega⟩
end Go.Proofs.YtiegkjimpclmaaaGreatDoor.Pure

namespace Go.Proofs.YtiegkjimpclmaaaGreatDoor.P
attribute [local go_sem] cG cD c_ cZ ci ch cE cH
def eC.f(a0:ByteArray): Option (Bool):=(dU.f a0).bind fun g0=>(some (!g0))
theorem eC.c(a0:ByteArray)(r:Bool)(w:World)(h:eC.f a0=some r):
 Calls Tryz.prog 146 #[.string a0] w fun e w'=>e = .returned (.bool r)∧Below w.heap.size w w':=by
 have HB:=a0_ (Below.refl w.heap.size w);have H:=h;clear h;unfold eC.f at H;obtain⟨g0,A2,H⟩:=ob_ H;obtain rfl:=Option.some.inj H;go_enter Tryz.func146,Tryz.ntmps146;go_wp2_with (first|((with_reducible refine gt_ 147 rfl ?_);refine gs_ 4 Tryz.func147 #[.string a0] ?_;(with_reducible refine(dU.c a0 g0 _ A2.out).mono ?_);rintro e w3 ⟨rfl,hb⟩;refine⟨_,rfl,?_⟩;replace HB:=a0_ (aa ay hb);clear hb));go_ret;exact⟨rr_,ay⟩
def fe.f(k:Nat)(a0:Int): Option (Bool):=(cA.f k (([0,1,3,5]:List Int)) a0).bind fun g0=>(some g0)
theorem fe.c(k:Nat)(a0:Int)(r:Bool)(w:World)(h:fe.f k a0=some r):
 Calls Tryz.prog 160 #[.int .i64 a0] w fun e w'=>e = .returned (.bool r)∧Below w.heap.size w w':=by
 have HB:=a0_ (Below.refl w.heap.size w);have H:=h;clear h;unfold fe.f at H;obtain⟨g3,g0⟩:∃ y_:List Int,y_=(([0,1,3,5]:List Int)):=⟨_,rfl⟩;rw[← g0]at H;have g2:=a0_ g0;clear g0;obtain⟨g4,A2,H⟩:=ob_ H;obtain rfl:=Option.some.inj H;go_enter Tryz.func160,Tryz.ntmps160;go_wp2_with (first|((with_reducible refine ax (N:=3) rfl ?_);refine Kd.R_lit (Kd.int .i64) _ 3 ?hg (N:=3) ?hd (xs:=([0,1,3,5]:List Int)) (inner:=[.int .i64 0,.int .i64 1,.int .i64 3,.int .i64 5]) (ok:=fun _=>True) (okp:=fun _=>True) ?hr ?hp (fun _ hk=>hk) trivial (Below.refl _ _) (Nat.le_refl _) (by simp) ?_;(case hd=>rfl);(case hg=>rfl);(case hr=>first|(go_simp;done)|(go_simp;rfl));(case hp=>exact(br.one (show Kd.M (Kd.int .i64) _ _ _ 0 [.int .i64 0]from rfl) (br.one (show Kd.M (Kd.int .i64) _ _ _ 1 [.int .i64 1]from rfl) (br.one (show Kd.M (Kd.int .i64) _ _ _ 3 [.int .i64 3]from rfl) (br.one (show Kd.M (Kd.int .i64) _ _ _ 5 [.int .i64 5]from rfl) (br.none _ _))))));intro g5 w3 ho4 hb hg_ hnew_;clear hg_ hnew_;(first|rw[← g2.out]at ho4|(simp only[Int.reduceToNat]at ho4;rw[← g2.out]at ho4));have g1:=a0_ (Kd.R_lower ho4 (aj ay));replace HB:=a0_ (aa ay hb);clear hb ho4;obtain⟨Ao5,co5,eo5⟩:=Kd.R_slice g1.out;subst eo5)|((with_reducible refine gt_ 197 rfl ?_);refine gs_ 5 Tryz.func197 #[.slice Ao5 g3.length co5,.int .i64 a0] ?_;(with_reducible refine(cA.c k _ _ g3 a0 g4 _ ?side1 ?side2 A2.out).mono ?_);(case side1=>exact kD_ (Kd.R_reads' g1.out).2.2);(case side2=>exact(Kd.R_reads' g1.out).2.1);rintro e w' ⟨rfl,⟨nd,rfl⟩⟩;refine⟨_,rfl,?_⟩));go_ret;exact⟨rr_,ay⟩
def fa.f(k:Nat)(a0:Int): Option (Bool):=(cA.f k (([1,2,5,6,15,16]:List Int)) a0).bind fun g0=>(some g0)
theorem fa.c(k:Nat)(a0:Int)(r:Bool)(w:World)(h:fa.f k a0=some r):
 Calls Tryz.prog 161 #[.int .i64 a0] w fun e w'=>e = .returned (.bool r)∧Below w.heap.size w w':=by
 have HB:=a0_ (Below.refl w.heap.size w);have H:=h;clear h;unfold fa.f at H;obtain⟨g3,g1⟩:∃ y_:List Int,y_=(([1,2,5,6,15,16]:List Int)):=⟨_,rfl⟩;rw[← g1]at H;have g2:=a0_ g1;clear g1;obtain⟨g4,A2,H⟩:=ob_ H;obtain rfl:=Option.some.inj H;go_enter Tryz.func161,Tryz.ntmps161;go_wp2_with (first|((with_reducible refine ax (N:=3) rfl ?_);refine Kd.R_lit (Kd.int .i64) _ 3 ?hg (N:=3) ?hd (xs:=([1,2,5,6,15,16]:List Int)) (inner:=[.int .i64 1,.int .i64 2,.int .i64 5,.int .i64 6,.int .i64 15,.int .i64 16]) (ok:=fun _=>True) (okp:=fun _=>True) ?hr ?hp (fun _ hk=>hk) trivial (Below.refl _ _) (Nat.le_refl _) (by simp) ?_;(case hd=>rfl);(case hg=>rfl);(case hr=>first|(go_simp;done)|(go_simp;rfl));(case hp=>exact(br.one (show Kd.M (Kd.int .i64) _ _ _ 1 [.int .i64 1]from rfl) (br.one (show Kd.M (Kd.int .i64) _ _ _ 2 [.int .i64 2]from rfl) (br.one (show Kd.M (Kd.int .i64) _ _ _ 5 [.int .i64 5]from rfl) (br.one (show Kd.M (Kd.int .i64) _ _ _ 6 [.int .i64 6]from rfl) (br.one (show Kd.M (Kd.int .i64) _ _ _ 15 [.int .i64 15]from rfl) (br.one (show Kd.M (Kd.int .i64) _ _ _ 16 [.int .i64 16]from rfl) (br.none _ _))))))));intro g5 w3 ho4 hb hg_ hnew_;clear hg_ hnew_;(first|rw[← g2.out]at ho4|(simp only[Int.reduceToNat]at ho4;rw[← g2.out]at ho4));have g0:=a0_ (Kd.R_lower ho4 (aj ay));replace HB:=a0_ (aa ay hb);clear hb ho4;obtain⟨Ao5,co5,eo5⟩:=Kd.R_slice g0.out;subst eo5)|((with_reducible refine gt_ 197 rfl ?_);refine gs_ 5 Tryz.func197 #[.slice Ao5 g3.length co5,.int .i64 a0] ?_;(with_reducible refine(cA.c k _ _ g3 a0 g4 _ ?side1 ?side2 A2.out).mono ?_);(case side1=>exact kD_ (Kd.R_reads' g0.out).2.2);(case side2=>exact(Kd.R_reads' g0.out).2.1);rintro e w' ⟨rfl,⟨nd,rfl⟩⟩;refine⟨_,rfl,?_⟩));go_ret;exact⟨rr_,ay⟩
def eO.f(a0:ByteArray): Option (Bool):=(dU.f a0).bind fun g0=>(some (!g0))
theorem eO.c(a0:ByteArray)(r:Bool)(w:World)(h:eO.f a0=some r):
 Calls Tryz.prog 207 #[.string a0] w fun e w'=>e = .returned (.bool r)∧Below w.heap.size w w':=by
 have HB:=a0_ (Below.refl w.heap.size w);have H:=h;clear h;unfold eO.f at H;obtain⟨g0,A2,H⟩:=ob_ H;obtain rfl:=Option.some.inj H;go_enter Tryz.func207,Tryz.ntmps207;go_wp2_with (first|((with_reducible refine gt_ 147 rfl ?_);refine gs_ 4 Tryz.func147 #[.string a0] ?_;(with_reducible refine(dU.c a0 g0 _ A2.out).mono ?_);rintro e w3 ⟨rfl,hb⟩;refine⟨_,rfl,?_⟩;replace HB:=a0_ (aa ay hb);clear hb));go_ret;exact⟨rr_,ay⟩
def aw.l0: Nat→ByteArray→List ByteArray→List ByteArray→Int→Int→Option (List ByteArray×Bool)
 | 0,_,_,_,_,_=>none
 | k+1,x0,x4,g1,g2,g0=>if g0<g2 then(if 0≤g0 then(if g0<(g1.length:Int)then((bc.f k (bn ByteArray.empty g1 g0)).bind fun g3=>(if g3=true then(aw.l0 k x0 x4 g1 g2 (wrap64 (g0+1)))else(some (([]:List ByteArray),false))))else(none))else(none))else(if(x0.size:Int)≤60 then(some (x4,decide ((x4.length:Int)≤8)))else(some (x4,false)))
def aw.f(k:Nat)(a0:ByteArray): Option (List ByteArray×Bool):=if a0.toList=([]:List UInt8)then(some (([]:List ByteArray),true))else((aQ.f k a0 46).bind fun g0=>(aw.l0 k a0 g0 g0 (g0.length:Int) 0))
theorem aw.mono_l: ∀ k,(∀ y0 y1 y2 y3 y4,LeO (aw.l0 k y0 y1 y2 y3 y4) (aw.l0 (k+1) y0 y1 y2 y3 y4))
 | 0=>fun _ _ _ _ _ r h=>by simp[aw.l0]at h
 | k+1=>by
  have ih0:=aw.mono_l k
  · intro y0 y1 y2 y3 y4
    unfold aw.l0
    repeat' first|(with_reducible first|exact ih0 _ _ _ _ _|exact bc.m _ _|exact aQ.m _ _ _|exact LeO.refl _|exact LeO.none _|refine LeO.ite ?_ ?_|refine LeO.bind ?_ (fun _=>?_))|exact LeO.none _|refine LeO.ite ?_ ?_|refine LeO.bind ?_ (fun _=>?_)
theorem aw.m: ∀ a0 k,LeO (aw.f k a0) (aw.f (k+1) a0):=by
 intro a0 k;have ih0:=aw.mono_l k;unfold aw.f
 repeat' first|(with_reducible first|exact ih0 _ _ _ _ _|exact bc.m _ _|exact aQ.m _ _ _|exact LeO.refl _|exact LeO.none _|refine LeO.ite ?_ ?_|refine LeO.bind ?_ (fun _=>?_))|exact LeO.none _|refine LeO.ite ?_ ?_|refine LeO.bind ?_ (fun _=>?_)
theorem aw.c(k:Nat)(a0:ByteArray)(r1:List ByteArray)(r2:Bool)(w:World)(h:aw.f k a0=some (r1,r2)):
 Calls Tryz.prog 171 #[.string a0] w fun e w'=> ∃ v0_:Value,e = .returned (.tuple #[v0_,.bool r2])∧Kd.R Kd.string 9 w' w.heap.size (fun _=>True) v0_ r1∧Below w.heap.size w w':=by
 have HB:=a0_ (Below.refl w.heap.size w);have H:=h;clear h;unfold aw.f at H
 by_cases c2:a0.toList=([]:List UInt8)
 case pos=>
  rw[if_pos c2]at H;have c2b0:=beq_iff_eq.mpr c2;have c2b1:=bne_eq_false_iff_eq.mpr c2;clear c2;simp only[Option.some.injEq,Prod.mk.injEq]at H;obtain⟨rfl,rfl⟩:=H;go_enter Tryz.func171,Tryz.ntmps171;go_wp2;go_ret2;exact⟨_,rr_,by first|exact Kd.R_nil _ _ _ _ _|exact Kd.N_nil _ _ _ _ _|exact Kd.V_nil _ _ _ _ _|exact Kd.Q_nil _ _ _ _ _|exact Kd.S_nil _ _ _ _ _,ay⟩
 rw[if_neg c2]at H;have c2b0:=beq_eq_false_iff_ne.mpr c2;have c2b1:=bne_iff_ne.mpr c2;obtain⟨g1,A3,H⟩:=ob_ H;have H':=a0_ H;clear H;go_enter Tryz.func171,Tryz.ntmps171;go_wp2_with (first|((with_reducible refine gt_ 116 rfl ?_);refine gs_ 10 Tryz.func116 #[.string a0,.int .u8 46] ?_;(with_reducible refine(aQ.c k a0 46 g1 _ A3.out).mono ?_);rintro e w4 ⟨j5,rfl,ho0,hb⟩;refine⟨_,rfl,?_⟩;have g3:=a0_ (Kd.R_lower ho0 (aj ay));replace HB:=a0_ (aa ay hb);clear hb;(try clear ho0);obtain⟨Ao5,co5,eo5⟩:=Kd.R_slice g3.out;subst eo5));go_loopg [13] k (fun kq j4 w'=> ∃ (g0:Int),j4 = .int .i64 g0∧ab (aw.l0 kq a0 g1 g1 (g1.length:Int) g0=some (r1,r2))∧ab (kq≤k)∧ab (Kd.R Kd.string 9 w' w.heap.size (fun _=>True) (.slice Ao5 g1.length co5) g1)∧ab (Kd.R Kd.string 9 w' w.heap.size (fun _=>True) (.slice Ao5 g1.length co5) g1)∧ab (Below w.heap.size w w'))
 case atStart=>exact⟨(0),rs_,H',⟨Nat.le_refl _⟩,⟨kR_ g3.out⟩,⟨kR_ g3.out⟩,⟨ay⟩⟩
 case round=>
  clear H'
  try clear c2
  try clear c2b0
  try clear c2b1
  obtain⟨g0,rfl,HA,HK1,HO_4,g4,HB⟩:=hrel
  cases gk with
  | zero=>exact absurd HA.out (by simp[aw.l0])
  | succ k1=>
   have H:=HA.out;clear HA;simp only[aw.l0]at H
   by_cases c6:g0<(g1.length:Int)
   case neg=>
    rw[if_neg c6]at H;have c6b0:=decide_eq_false c6;clear c6
    by_cases g2:(a0.size:Int)≤60
    case neg=>
     rw[if_neg g2]at H;have j0:=decide_eq_false g2;have j1:decide (a0.size≤60)=false:=decide_eq_false (by omega);clear g2;simp only[Option.some.injEq,Prod.mk.injEq]at H;obtain⟨rfl,rfl⟩:=H;go_wp2;go_ret2;exact⟨_,rr_,kR_ HO_4.out,ay⟩
    rw[if_pos g2]at H;have j0:=decide_eq_true g2;have j1:decide (a0.size≤60)=true:=decide_eq_true (by omega);clear g2;simp only[Option.some.injEq,Prod.mk.injEq]at H;obtain⟨rfl,rfl⟩:=H;go_wp2;go_ret2;exact⟨_,rr_,kR_ HO_4.out,ay⟩
   rw[if_pos c6]at H;have c6b0:=decide_eq_true c6;clear c6
   by_cases c7:0≤g0
   case neg=>
    rw[if_neg c7]at H;exact absurd H (by simp)
   rw[if_pos c7]at H;have c7b0:=decide_eq_true c7;clear c7
   by_cases c8:g0<(g1.length:Int)
   case neg=>
    rw[if_neg c8]at H;exact absurd H (by simp)
   rw[if_pos c8]at H;have c8b0:=decide_eq_true c8;clear c8;obtain⟨j3,A9,H⟩:=ob_ H
   by_cases g8:j3=true
   case neg=>
    replace g8:=Bool.eq_false_iff.mpr g8;subst g8;rw[if_neg ff_]at H;simp only[Option.some.injEq,Prod.mk.injEq]at H;obtain⟨rfl,rfl⟩:=H;have g5:=t0_ (g0);have g6:=tl_ (g0) (g1.length);obtain⟨j2,g7,g9⟩:=Kd.at_string (Kd.R_reads' g4.out).2.2 g0 (of_eq_true g5) (of_eq_true g6);cases g7;go_wp2_with (first|((with_reducible refine gt_ 200 rfl ?_);refine gs_ 18 Tryz.func200 #[.string (bn ByteArray.empty g1 g0)] ?_;(with_reducible refine(bc.c k1 (bn ByteArray.empty g1 g0) false _ A9.out).mono ?_);rintro e w' ⟨rfl,⟨nd,rfl⟩⟩;refine⟨_,rfl,?_⟩));go_ret2;exact⟨_,rr_,by first|exact Kd.R_nil _ _ _ _ _|exact Kd.N_nil _ _ _ _ _|exact Kd.V_nil _ _ _ _ _|exact Kd.Q_nil _ _ _ _ _|exact Kd.S_nil _ _ _ _ _,ay⟩
   subst g8;rw[if_pos rfl]at H;have H':=a0_ H;clear H;have g5:=t0_ (g0);have g6:=tl_ (g0) (g1.length);obtain⟨j2,g7,g9⟩:=Kd.at_string (Kd.R_reads' g4.out).2.2 g0 (of_eq_true g5) (of_eq_true g6);cases g7;go_wp2_with (first|((with_reducible refine gt_ 200 rfl ?_);refine gs_ 18 Tryz.func200 #[.string (bn ByteArray.empty g1 g0)] ?_;(with_reducible refine(bc.c k1 (bn ByteArray.empty g1 g0) true _ A9.out).mono ?_);rintro e w' ⟨rfl,⟨nd,rfl⟩⟩;refine⟨_,rfl,?_⟩));go_roundg k1
   case measure=>have:=HK1.out;omega
   case rel=>exact⟨(wrap64 (g0+1)),rs_,H',jl_ HK1,⟨kR_ HO_4.out⟩,⟨kR_ g4.out⟩,⟨ay⟩⟩
def dH.f(a0:ByteArray): Option (ByteArray):=(cy.f a0 (⟨#[46]⟩:ByteArray)).bind fun g0=>(some g0.2.1)
theorem dH.c(a0:ByteArray)(r:ByteArray)(w:World)(h:dH.f a0=some r):
 Calls Tryz.prog 241 #[.string a0] w fun e w'=>e = .returned (.string r)∧cC w w':=by
 have H:=h;clear h;unfold dH.f at H;obtain⟨⟨g0,g1,g2⟩,A2,H⟩:=ob_ H;obtain rfl:=Option.some.inj H;go_enter Tryz.func241,Tryz.ntmps241;go_wp2_with (first|((with_reducible refine gt_ 92 rfl ?_);refine gs_ 8 Tryz.func92 #[.string a0,.string (⟨#[46]⟩:ByteArray)] ?_;(with_reducible refine(cy.c a0 (⟨#[46]⟩:ByteArray) g0 g1 g2 _ A2.out).mono ?_);rintro e w' ⟨rfl,⟨nd,rfl⟩⟩;refine⟨_,rfl,?_⟩));go_ret;exact⟨rs_,dr_⟩
def dx.f(k:Nat)(a0:ByteArray)(a1:ByteArray): Option (Int):=(df.f a0).bind fun g0=>((df.f a1).bind fun g1=>((al.f k g0).bind fun g2=>((al.f k g1).bind fun g3=>((aG.f k g2 g3).bind fun g4=>(some g4)))))
theorem dx.c(k:Nat)(a0:ByteArray)(a1:ByteArray)(r:Int)(w:World)(h:dx.f k a0 a1=some r):
 Calls Tryz.prog 132 #[.string a0,.string a1] w fun e w'=>e = .returned (.int .i64 r)∧Below w.heap.size w w':=by
 have HB:=a0_ (Below.refl w.heap.size w);have H:=h;clear h;unfold dx.f at H;obtain⟨g2,A3,H⟩:=ob_ H;obtain⟨g3,A4,H⟩:=ob_ H;obtain⟨g4,A5,H⟩:=ob_ H;obtain⟨g5,A6,H⟩:=ob_ H;obtain⟨j0,A7,H⟩:=ob_ H;obtain rfl:=Option.some.inj H;go_enter Tryz.func132,Tryz.ntmps132;go_wp2_with (first|((with_reducible refine gt_ 144 rfl ?_);refine gs_ 8 Tryz.func144 #[.string a0] ?_;(with_reducible refine(df.c a0 g2 _ A3.out).mono ?_);rintro e w8 ⟨j3,rfl,ho0,hb⟩;refine⟨_,rfl,?_⟩;have g0:=a0_ (Kd.R_lower ho0 (aj ay));replace HB:=a0_ (aa ay hb);clear hb;(try clear ho0))|((with_reducible refine gt_ 144 rfl ?_);refine gs_ 10 Tryz.func144 #[.string a1] ?_;(with_reducible refine(df.c a1 g3 _ A4.out).mono ?_);rintro e w9 ⟨j4,rfl,ho0,hb⟩;refine⟨_,rfl,?_⟩;have g1:=a0_ (Kd.R_lower (Kd.R_new' ho0 (Kd.R_lt (kR_ g0.out))) (aj ay));replace g0:=a0_ (Kd.R_elder' (kR_ g0.out) (Kd.R_base ho0) hb);replace HB:=a0_ (aa ay hb);clear hb;(try clear ho0);obtain⟨g6,g7,j1⟩:=Kd.R_slice g0.out;subst j1)|((with_reducible refine gt_ 177 rfl ?_);refine gs_ 12 Tryz.func177 #[.slice g6 g2.length g7] ?_;(with_reducible refine(al.c k (fun k_=>some k_=(.slice g6 g2.length g7:Value).ownBlock) (.slice g6 g2.length g7) g2 g4 w _ ?side1 ?side2 A5.out).mono ?_);(case side1=>exact ca);(case side2=>exact Kd.R_tight rfl g0.out);rintro e j5 ⟨rfl,hy0,hb,hkp⟩;refine⟨_,rfl,?_⟩;replace g0:=a0_ (Kd.R_reok rfl hy0 (fun k_ e_=>g0.out.1 k_ e_));replace g1:=a0_ (Kd.R_mono (ok':=fun k_=>nw_ k_ g6 g2.length g7) (Kd.R_keptB (g1.out) hkp (fun k_ hk_ hs_=>(hk_.2) hs_)) (fun k_ hk_=>hk_.1.2));replace HB:=a0_ (hb);clear hb;(try clear hkp);(try clear hy0);obtain⟨g8,g9,j2⟩:=Kd.R_slice g1.out;subst j2)|((with_reducible refine gt_ 177 rfl ?_);refine gs_ 14 Tryz.func177 #[.slice g8 g3.length g9] ?_;(with_reducible refine(al.c k (fun k_=>some k_=(.slice g8 g3.length g9:Value).ownBlock) (.slice g8 g3.length g9) g3 g5 w _ ?side1 ?side2 A6.out).mono ?_);(case side1=>exact ca);(case side2=>exact Kd.R_tight rfl g1.out);rintro e j6 ⟨rfl,hy0,hb,hkp⟩;refine⟨_,rfl,?_⟩;replace g0:=a0_ (Kd.R_mono (ok':=fun k_=>nw_ k_ g8 g3.length g9) (Kd.R_keptB (g0.out) hkp (fun k_ hk_ hs_=>(hk_.2) hs_)) (fun k_ hk_=>hk_.1.2));replace g1:=a0_ (Kd.R_reok rfl hy0 (fun k_ e_=>g1.out.1 k_ e_));replace HB:=a0_ (hb);clear hb;(try clear hkp);(try clear hy0))|((with_reducible refine gO (f:=178) rfl ?_);refine lO (some 17) rfl rfl Tryz.func178 (by kernel_rfl) rfl #[.slice g6 g4.length g7,.slice g8 g5.length g9] rfl (by(try simp only[List.map_toArray,List.map_cons,List.map_nil]);first|done|(rw[show g4.length=g2.length from(Kd.R_reads' g0.out).1.symm,show g5.length=g3.length from(Kd.R_reads' g1.out).1.symm]<;>rfl)|rfl|(simp only[List.length_drop,List.length_take];rfl)) ?_;(with_reducible refine(aG.c k _ _ g4 _ _ g5 j0 _ ?side1 ?side2 ?side3 ?side4 A7.out).mono ?_);(case side1=>exact kD_ (Kd.R_reads' g0.out).2.2);(case side2=>rw[show g4.length=g2.length from(Kd.R_reads' g0.out).1.symm];exact(Kd.R_reads' g0.out).2.1);(case side3=>exact kD_ (Kd.R_reads' g1.out).2.2);(case side4=>rw[show g5.length=g3.length from(Kd.R_reads' g1.out).1.symm];exact(Kd.R_reads' g1.out).2.1);rintro e w' ⟨rfl,⟨nd,rfl⟩⟩;refine⟨_,rfl,?_⟩));go_ret;exact⟨rr_,ay⟩
def bb.l0: Nat→ByteArray→Int→List Int→Int→Int→Option (ByteArray×Int×Int)
 | 0,_,_,_,_,_=>none
 | k+1,x3,x4,g1,g2,g3=>if x4>0 then((bR.f g1 g2 g3 (([⟨#[97]⟩,⟨#[98]⟩,⟨#[119,119,119]⟩,⟨#[115,117,98]⟩,⟨#[42]⟩,⟨#[120,49]⟩,⟨#[110,115]⟩]:List ByteArray))).bind fun g0=>(if g0.1.size+1≤9223372036854775807 then(if(g0.1++(⟨#[46]⟩:ByteArray)).size+x3.size≤9223372036854775807 then(bb.l0 k ((g0.1++(⟨#[46]⟩:ByteArray))++x3) (wrap64 (x4-1)) g1 g0.2.1 g0.2.2)else(none))else(none)))else(some (x3,g2,g3))
def bb.f(k:Nat)(s0_0:List Int)(s0_1:Int)(s0_2:Int): Option (ByteArray×Int×Int):=(aM.f s0_0 s0_1 s0_2 40).bind fun g0=>(if g0.1=0 then((bR.f s0_0 g0.2.1 g0.2.2 (([⟨#[]⟩,⟨#[46]⟩,⟨#[97,46,46,98]⟩,⟨#[65]⟩,⟨#[97,46]⟩,⟨#[97,42]⟩,⟨#[97,46,98,46,99,46,100,46,101,46,102,46,103,46,104]⟩,⟨#[97,46,98,46,99,46,100,46,101,46,102,46,103,46,104,46,105]⟩,⟨#[97,98,99,100,101,102,103,104,105,106,107,108,109,110,111,112,113,114,115,116]⟩,⟨#[97,98,99,100,101,102,103,104,105,106,107,108,109,110,111,112,113,114,115,116,117]⟩]:List ByteArray))).bind fun g1=>(some (g1.1,g1.2.1,g1.2.2)))else(if g0.1=1 then((bR.f s0_0 g0.2.1 g0.2.2 (([⟨#[]⟩,⟨#[99,111,109]⟩]:List ByteArray))).bind fun g2=>(some (g2.1,g2.2.1,g2.2.2)))else((bR.f s0_0 g0.2.1 g0.2.2 (([⟨#[101,120]⟩,⟨#[99,111,109]⟩,⟨#[101,120,46,99,111,109]⟩,⟨#[101,120,46,99,111,109]⟩,⟨#[101,120,46,99,111,109]⟩]:List ByteArray))).bind fun g3=>((aM.f s0_0 g3.2.1 g3.2.2 3).bind fun g4=>(bb.l0 k g3.1 g4.1 s0_0 g4.2.1 g4.2.2)))))
theorem bb.mono_l: ∀ k,(∀ y0 y1 y2 y3 y4,LeO (bb.l0 k y0 y1 y2 y3 y4) (bb.l0 (k+1) y0 y1 y2 y3 y4))
 | 0=>fun _ _ _ _ _ r h=>by simp[bb.l0]at h
 | k+1=>by
  have ih0:=bb.mono_l k
  · intro y0 y1 y2 y3 y4
    unfold bb.l0
    repeat' first|(with_reducible first|exact ih0 _ _ _ _ _|exact LeO.refl _|exact LeO.none _|refine LeO.ite ?_ ?_|refine LeO.bind ?_ (fun _=>?_))|exact LeO.none _|refine LeO.ite ?_ ?_|refine LeO.bind ?_ (fun _=>?_)
theorem bb.m: ∀ a0 a1 a2 k,LeO (bb.f k a0 a1 a2) (bb.f (k+1) a0 a1 a2):=by
 intro a0 a1 a2 k;have ih0:=bb.mono_l k;unfold bb.f
 repeat' first|(with_reducible first|exact ih0 _ _ _ _ _|exact LeO.refl _|exact LeO.none _|refine LeO.ite ?_ ?_|refine LeO.bind ?_ (fun _=>?_))|exact LeO.none _|refine LeO.ite ?_ ?_|refine LeO.bind ?_ (fun _=>?_)
theorem bb.c(k:Nat)(g:Nat)(s0_0:List Int)(s0_1:Int)(s0_2:Int)(r1:ByteArray)(r2:Int)(r3:Int)(w0 w:World)(hI:ak w0 w g s0_0 s0_1 s0_2)(hB:Below w0.heap.size w0 w)(h:bb.f k s0_0 s0_1 s0_2=some (r1,r2,r3)):
 Calls Tryz.prog 112 #[.pointer (some ⟨g,0,none⟩)] w fun e w'=>e = .returned (.string r1)∧ak w0 w' g s0_0 r2 r3∧Below w0.heap.size w0 w'∧aJ w w' g none:=by
 have HI0:=a0_ hI;have HK:=a0_ (aJ.refl w g none);have HL:=a0_ hB.size;clear hI;have HW0:=a0_ hB.size;have HB:=a0_ hB;clear hB;have H:=h;clear h;unfold bb.f at H;obtain⟨⟨j0,g3,g4⟩,A2,H⟩:=ob_ H
 by_cases c3:j0=0
 case pos=>
  rw[if_pos c3]at H;have c3b0:=beq_iff_eq.mpr c3;have c3b1:=bne_eq_false_iff_eq.mpr c3;clear c3;obtain⟨y9,j5⟩:∃ y_:List ByteArray,y_=(([⟨#[]⟩,⟨#[46]⟩,⟨#[97,46,46,98]⟩,⟨#[65]⟩,⟨#[97,46]⟩,⟨#[97,42]⟩,⟨#[97,46,98,46,99,46,100,46,101,46,102,46,103,46,104]⟩,⟨#[97,46,98,46,99,46,100,46,101,46,102,46,103,46,104,46,105]⟩,⟨#[97,98,99,100,101,102,103,104,105,106,107,108,109,110,111,112,113,114,115,116]⟩,⟨#[97,98,99,100,101,102,103,104,105,106,107,108,109,110,111,112,113,114,115,116,117]⟩]:List ByteArray)):=⟨_,rfl⟩;rw[← j5]at H;have y3:=a0_ j5;clear j5;obtain⟨⟨d0,d3,d4⟩,A4,H⟩:=ob_ H;simp only[Option.some.injEq,Prod.mk.injEq]at H;obtain⟨rfl,rfl,rfl⟩:=H;go_enter Tryz.func112,Tryz.ntmps112;go_wp2_with (first|((with_reducible refine gt_ 111 rfl ?_);refine gs_ 6 Tryz.func111 #[.pointer (some ⟨g,0,none⟩),.int .i64 40] ?_;(with_reducible refine(aM.c g s0_0 s0_1 s0_2 40 j0 g3 g4 w0 _ ?side1 ?side2 A2.out).mono ?_);(case side1=>exact bg);(case side2=>exact ca);rintro e w5 ⟨rfl,hi,hb,hk⟩;refine⟨_,rfl,?_⟩;replace HK:=a0_ (kt_ HK hk (.inl rfl));replace HB:=a0_ (hb);replace HI0:=a0_ (hi);clear hb hk hi)|((with_reducible refine ax (N:=10) rfl ?_);refine ls_ 10 9 ([⟨#[]⟩,⟨#[46]⟩,⟨#[97,46,46,98]⟩,⟨#[65]⟩,⟨#[97,46]⟩,⟨#[97,42]⟩,⟨#[97,46,98,46,99,46,100,46,101,46,102,46,103,46,104]⟩,⟨#[97,46,98,46,99,46,100,46,101,46,102,46,103,46,104,46,105]⟩,⟨#[97,98,99,100,101,102,103,104,105,106,107,108,109,110,111,112,113,114,115,116]⟩,⟨#[97,98,99,100,101,102,103,104,105,106,107,108,109,110,111,112,113,114,115,116,117]⟩]:List ByteArray) ?_;intro f7 w6 ho7 hb hg_ hnew_;clear hg_ hnew_;(first|rw[← y3.out]at ho7|(simp only[Int.reduceToNat]at ho7;rw[← y3.out]at ho7));have g5:=a0_ (Kd.R_lower ho7 (cJ (w:=w) (g:=g) (row:=none) kq_));replace HI0:=a0_ (ak.below bg hb);replace HK:=a0_ (kt_ HK (aJ.of_below hb g none) (.inl rfl));replace HB:=a0_ (aa ca hb);clear hb ho7;obtain⟨Ao8,co8,eo8⟩:=Kd.R_slice g5.out;subst eo8)|((with_reducible refine gt_ 154 rfl ?_);refine gs_ 11 Tryz.func154 #[.pointer (some ⟨g,0,none⟩),.slice Ao8 y9.length co8] ?_;(with_reducible refine(bR.c g s0_0 g3 g4 _ _ y9 d0 d3 d4 w0 _ ?side1 ?side2 ?side3 ?side4 ?side5 A4.out).mono ?_);(case side1=>exact bg);(case side2=>exact ca);(case side3=>exact kD_ (Kd.R_reads' g5.out).2.2);(case side4=>exact(Kd.R_reads' g5.out).2.1);(case side5=>exact dW (ak.own_ne HI0.out g5.out (by decide)));rintro e w9 ⟨rfl,hi,hb,hk⟩;refine⟨_,rfl,?_⟩;replace g5:=a0_ (Kd.R_mono (Kd.R_keep (ak.apart (show ak w0 _ g s0_0 g3 g4 from bg) (kR_ g5.out) (by decide)) hk (fun _ h=>h.2)) (fun _ h=>h.1));replace HK:=a0_ (kt_ HK hk (.inl rfl));replace HB:=a0_ (hb);replace HI0:=a0_ (hi);clear hb hk hi));go_ret;exact⟨rr_,bg,ca,kq_⟩
 rw[if_neg c3]at H;have c3b0:=beq_eq_false_iff_ne.mpr c3;have c3b1:=bne_iff_ne.mpr c3
 by_cases g9:j0=1
 case pos=>
  rw[if_pos g9]at H;have y4:=beq_iff_eq.mpr g9;have y5:=bne_eq_false_iff_eq.mpr g9;clear g9;obtain⟨b0,j6⟩:∃ y_:List ByteArray,y_=(([⟨#[]⟩,⟨#[99,111,109]⟩]:List ByteArray)):=⟨_,rfl⟩;rw[← j6]at H;have y6:=a0_ j6;clear j6;obtain⟨⟨d5,d6,d7⟩,z7,H⟩:=ob_ H;simp only[Option.some.injEq,Prod.mk.injEq]at H;obtain⟨rfl,rfl,rfl⟩:=H;go_enter Tryz.func112,Tryz.ntmps112;go_wp2_with (first|((with_reducible refine gt_ 111 rfl ?_);refine gs_ 6 Tryz.func111 #[.pointer (some ⟨g,0,none⟩),.int .i64 40] ?_;(with_reducible refine(aM.c g s0_0 s0_1 s0_2 40 j0 g3 g4 w0 _ ?side1 ?side2 A2.out).mono ?_);(case side1=>exact bg);(case side2=>exact ca);rintro e T1 ⟨rfl,hi,hb,hk⟩;refine⟨_,rfl,?_⟩;replace HK:=a0_ (kt_ HK hk (.inl rfl));replace HB:=a0_ (hb);replace HI0:=a0_ (hi);clear hb hk hi)|((with_reducible refine ax (N:=15) rfl ?_);refine ls_ 15 9 ([⟨#[]⟩,⟨#[99,111,109]⟩]:List ByteArray) ?_;intro f8 T2 j1 hb hg_ hnew_;clear hg_ hnew_;(first|rw[← y6.out]at j1|(simp only[Int.reduceToNat]at j1;rw[← y6.out]at j1));have g6:=a0_ (Kd.R_lower j1 (cJ (w:=w) (g:=g) (row:=none) kq_));replace HI0:=a0_ (ak.below bg hb);replace HK:=a0_ (kt_ HK (aJ.of_below hb g none) (.inl rfl));replace HB:=a0_ (aa ca hb);clear hb j1;obtain⟨d8,d9,z0⟩:=Kd.R_slice g6.out;subst z0)|((with_reducible refine gt_ 154 rfl ?_);refine gs_ 16 Tryz.func154 #[.pointer (some ⟨g,0,none⟩),.slice d8 b0.length d9] ?_;(with_reducible refine(bR.c g s0_0 g3 g4 _ _ b0 d5 d6 d7 w0 _ ?side1 ?side2 ?side3 ?side4 ?side5 z7.out).mono ?_);(case side1=>exact bg);(case side2=>exact ca);(case side3=>exact kD_ (Kd.R_reads' g6.out).2.2);(case side4=>exact(Kd.R_reads' g6.out).2.1);(case side5=>exact dW (ak.own_ne HI0.out g6.out (by decide)));rintro e T3 ⟨rfl,hi,hb,hk⟩;refine⟨_,rfl,?_⟩;replace g6:=a0_ (Kd.R_mono (Kd.R_keep (ak.apart (show ak w0 _ g s0_0 g3 g4 from bg) (kR_ g6.out) (by decide)) hk (fun _ h=>h.2)) (fun _ h=>h.1));replace HK:=a0_ (kt_ HK hk (.inl rfl));replace HB:=a0_ (hb);replace HI0:=a0_ (hi);clear hb hk hi));go_ret;exact⟨rr_,bg,ca,kq_⟩
 rw[if_neg g9]at H;have y4:=beq_eq_false_iff_ne.mpr g9;have y5:=bne_iff_ne.mpr g9;obtain⟨b1,j7⟩:∃ y_:List ByteArray,y_=(([⟨#[101,120]⟩,⟨#[99,111,109]⟩,⟨#[101,120,46,99,111,109]⟩,⟨#[101,120,46,99,111,109]⟩,⟨#[101,120,46,99,111,109]⟩]:List ByteArray)):=⟨_,rfl⟩;rw[← j7]at H;have y7:=a0_ j7;clear j7;obtain⟨⟨b2,y1,y2⟩,z8,H⟩:=ob_ H;obtain⟨⟨b3,b4,b5⟩,z9,H⟩:=ob_ H;have H':=a0_ H;clear H;go_enter Tryz.func112,Tryz.ntmps112;go_wp2_with (first|((with_reducible refine gt_ 111 rfl ?_);refine gs_ 6 Tryz.func111 #[.pointer (some ⟨g,0,none⟩),.int .i64 40] ?_;(with_reducible refine(aM.c g s0_0 s0_1 s0_2 40 j0 g3 g4 w0 _ ?side1 ?side2 A2.out).mono ?_);(case side1=>exact bg);(case side2=>exact ca);rintro e T4 ⟨rfl,hi,hb,hk⟩;refine⟨_,rfl,?_⟩;replace HK:=a0_ (kt_ HK hk (.inl rfl));replace HB:=a0_ (hb);replace HI0:=a0_ (hi);clear hb hk hi)|((with_reducible refine ax (N:=18) rfl ?_);refine ls_ 18 9 ([⟨#[101,120]⟩,⟨#[99,111,109]⟩,⟨#[101,120,46,99,111,109]⟩,⟨#[101,120,46,99,111,109]⟩,⟨#[101,120,46,99,111,109]⟩]:List ByteArray) ?_;intro f9 T5 j2 hb hg_ hnew_;clear hg_ hnew_;(first|rw[← y7.out]at j2|(simp only[Int.reduceToNat]at j2;rw[← y7.out]at j2));have g0:=a0_ (Kd.R_lower j2 (cJ (w:=w) (g:=g) (row:=none) kq_));replace HI0:=a0_ (ak.below bg hb);replace HK:=a0_ (kt_ HK (aJ.of_below hb g none) (.inl rfl));replace HB:=a0_ (aa ca hb);clear hb j2;obtain⟨z1,z2,z3⟩:=Kd.R_slice g0.out;subst z3)|((with_reducible refine gt_ 154 rfl ?_);refine gs_ 19 Tryz.func154 #[.pointer (some ⟨g,0,none⟩),.slice z1 b1.length z2] ?_;(with_reducible refine(bR.c g s0_0 g3 g4 _ _ b1 b2 y1 y2 w0 _ ?side1 ?side2 ?side3 ?side4 ?side5 z8.out).mono ?_);(case side1=>exact bg);(case side2=>exact ca);(case side3=>exact kD_ (Kd.R_reads' g0.out).2.2);(case side4=>exact(Kd.R_reads' g0.out).2.1);(case side5=>exact dW (ak.own_ne HI0.out g0.out (by decide)));rintro e T6 ⟨rfl,hi,hb,hk⟩;refine⟨_,rfl,?_⟩;replace g0:=a0_ (Kd.R_mono (Kd.R_keep (ak.apart (show ak w0 _ g s0_0 g3 g4 from bg) (kR_ g0.out) (by decide)) hk (fun _ h=>h.2)) (fun _ h=>h.1));replace HK:=a0_ (kt_ HK hk (.inl rfl));replace HB:=a0_ (hb);replace HI0:=a0_ (hi);clear hb hk hi)|((with_reducible refine gt_ 111 rfl ?_);refine gs_ 21 Tryz.func111 #[.pointer (some ⟨g,0,none⟩),.int .i64 3] ?_;(with_reducible refine(aM.c g s0_0 y1 y2 3 b3 b4 b5 w0 _ ?side1 ?side2 z9.out).mono ?_);(case side1=>exact bg);(case side2=>exact ca);rintro e T7 ⟨rfl,hi,hb,hk⟩;refine⟨_,rfl,?_⟩;replace g0:=a0_ (Kd.R_mono (Kd.R_keep (ak.apart (show ak w0 _ g s0_0 y1 y2 from bg) (kR_ g0.out) (by decide)) hk (fun _ h=>h.2)) (fun _ h=>h.1));replace HK:=a0_ (kt_ HK hk (.inl rfl));replace HB:=a0_ (hb);replace HI0:=a0_ (hi);clear hb hk hi));go_loopg [3,4] k (fun kq v3 v4 w'=> ∃ (x3_1:ByteArray) (x4_1:Int) (g1:Int) (g2:Int),v3 = .string x3_1∧v4 = .int .i64 x4_1∧ab (bb.l0 kq x3_1 x4_1 s0_0 g1 g2=some (r1,r2,r3))∧ab (kq≤k)∧ab (ak w0 w' g s0_0 g1 g2)∧ab (aJ w w' g none)∧ab (Below w0.heap.size w0 w'))
 case atStart=>exact⟨(b2),(b3),(b4),(b5),rs_,rs_,H',⟨Nat.le_refl _⟩,⟨bg⟩,⟨kq_⟩,⟨ca⟩⟩
 case round=>
  clear H'
  try clear c3
  try clear c3b0
  try clear c3b1
  try clear g9
  try clear y4
  try clear y5
  obtain⟨x3_1,x4_1,g1,g2,rfl,rfl,HA,HK1,HI0,HK,HB⟩:=hrel
  cases gk with
  | zero=>exact absurd HA.out (by simp[bb.l0])
  | succ k1=>
   have H:=HA.out;clear HA;simp only[bb.l0]at H
   by_cases j4:x4_1>0
   case neg=>
    rw[if_neg j4]at H;have b9:=decide_eq_false j4;clear j4;simp only[Option.some.injEq,Prod.mk.injEq]at H;obtain⟨rfl,rfl,rfl⟩:=H;go_wp2;go_ret;exact⟨rr_,bg,ca,kq_⟩
   rw[if_pos j4]at H;have b9:=decide_eq_true j4;clear j4;obtain⟨b6,j8⟩:∃ y_:List ByteArray,y_=(([⟨#[97]⟩,⟨#[98]⟩,⟨#[119,119,119]⟩,⟨#[115,117,98]⟩,⟨#[42]⟩,⟨#[120,49]⟩,⟨#[110,115]⟩]:List ByteArray)):=⟨_,rfl⟩;rw[← j8]at H;have y8:=a0_ j8;clear j8;obtain⟨⟨g8,b7,b8⟩,f0,H⟩:=ob_ H
   by_cases j9:g8.size+1≤9223372036854775807
   case neg=>
    rw[if_neg j9]at H;exact absurd H (by simp)
   rw[if_pos j9]at H;have f1:=eq_true j9;have f2:=decide_eq_true j9
   try have f3:(9223372036854775807<g8.size+1)=False:=eq_false (Nat.not_lt.2 j9)
   by_cases y0:(g8++(⟨#[46]⟩:ByteArray)).size+x3_1.size≤9223372036854775807
   case neg=>
    rw[if_neg y0]at H;exact absurd H (by simp)
   rw[if_pos y0]at H;have f4:=eq_true y0;have f5:=decide_eq_true y0
   try have f6:(9223372036854775807<(g8++(⟨#[46]⟩:ByteArray)).size+x3_1.size)=False:=eq_false (Nat.not_lt.2 y0)
   have H':=a0_ H;clear H;go_wp2_with (first|((with_reducible refine ax (N:=27) rfl ?_);refine ls_ 27 9 ([⟨#[97]⟩,⟨#[98]⟩,⟨#[119,119,119]⟩,⟨#[115,117,98]⟩,⟨#[42]⟩,⟨#[120,49]⟩,⟨#[110,115]⟩]:List ByteArray) ?_;intro T0 T8 j3 hb hg_ hnew_;clear hg_ hnew_;(first|rw[← y8.out]at j3|(simp only[Int.reduceToNat]at j3;rw[← y8.out]at j3));have g7:=a0_ (Kd.R_lower j3 (cJ (w:=w) (g:=g) (row:=none) kq_));replace HI0:=a0_ (ak.below bg hb);replace HK:=a0_ (kt_ HK (aJ.of_below hb g none) (.inl rfl));replace HB:=a0_ (aa ca hb);clear hb j3;obtain⟨z4,z5,z6⟩:=Kd.R_slice g7.out;subst z6)|((with_reducible refine gt_ 154 rfl ?_);refine gs_ 28 Tryz.func154 #[.pointer (some ⟨g,0,none⟩),.slice z4 b6.length z5] ?_;(with_reducible refine(bR.c g s0_0 g1 g2 _ _ b6 g8 b7 b8 w0 _ ?side1 ?side2 ?side3 ?side4 ?side5 f0.out).mono ?_);(case side1=>exact bg);(case side2=>exact ca);(case side3=>exact kD_ (Kd.R_reads' g7.out).2.2);(case side4=>exact(Kd.R_reads' g7.out).2.1);(case side5=>exact dW (ak.own_ne HI0.out g7.out (by decide)));rintro e T9 ⟨rfl,hi,hb,hk⟩;refine⟨_,rfl,?_⟩;replace g7:=a0_ (Kd.R_mono (Kd.R_keep (ak.apart (show ak w0 _ g s0_0 g1 g2 from bg) (kR_ g7.out) (by decide)) hk (fun _ h=>h.2)) (fun _ h=>h.1));replace HK:=a0_ (kt_ HK hk (.inl rfl));replace HB:=a0_ (hb);replace HI0:=a0_ (hi);clear hb hk hi));go_roundg k1
   case measure=>have:=HK1.out;omega
   case rel=>exact⟨((g8++(⟨#[46]⟩:ByteArray))++x3_1),(wrap64 (x4_1-1)),(b7),(b8),rs_,rs_,H',jl_ HK1,⟨bg⟩,⟨kq_⟩,⟨ca⟩⟩
def cT.f(s0_0:List Int)(s0_1:Int)(s0_2:Int): Option (ByteArray×Int×Int):=(bR.f s0_0 s0_1 s0_2 (([⟨#[97,46,101,120,46,99,111,109]⟩,⟨#[98,46,101,120,46,99,111,109]⟩,⟨#[110,115,46,101,120,46,99,111,109]⟩,⟨#[119,119,119,46,99,111,109]⟩,⟨#[120,49,46,115,117,98,46,101,120,46,99,111,109]⟩]:List ByteArray))).bind fun g0=>(some (g0.1,g0.2.1,g0.2.2))
theorem cT.c(g:Nat)(s0_0:List Int)(s0_1:Int)(s0_2:Int)(r1:ByteArray)(r2:Int)(r3:Int)(w0 w:World)(hI:ak w0 w g s0_0 s0_1 s0_2)(hB:Below w0.heap.size w0 w)(h:cT.f s0_0 s0_1 s0_2=some (r1,r2,r3)):
 Calls Tryz.prog 155 #[.pointer (some ⟨g,0,none⟩)] w fun e w'=>e = .returned (.string r1)∧ak w0 w' g s0_0 r2 r3∧Below w0.heap.size w0 w'∧aJ w w' g none:=by
 have HI0:=a0_ hI;have HK:=a0_ (aJ.refl w g none);have HL:=a0_ hB.size;clear hI;have HW0:=a0_ hB.size;have HB:=a0_ hB;clear hB;have H:=h;clear h;unfold cT.f at H;obtain⟨g3,g1⟩:∃ y_:List ByteArray,y_=(([⟨#[97,46,101,120,46,99,111,109]⟩,⟨#[98,46,101,120,46,99,111,109]⟩,⟨#[110,115,46,101,120,46,99,111,109]⟩,⟨#[119,119,119,46,99,111,109]⟩,⟨#[120,49,46,115,117,98,46,101,120,46,99,111,109]⟩]:List ByteArray)):=⟨_,rfl⟩;rw[← g1]at H;have g2:=a0_ g1;clear g1;obtain⟨⟨g4,g5,g6⟩,A2,H⟩:=ob_ H;simp only[Option.some.injEq,Prod.mk.injEq]at H;obtain⟨rfl,rfl,rfl⟩:=H;go_enter Tryz.func155,Tryz.ntmps155;go_wp2_with (first|((with_reducible refine ax (N:=4) rfl ?_);refine ls_ 4 9 ([⟨#[97,46,101,120,46,99,111,109]⟩,⟨#[98,46,101,120,46,99,111,109]⟩,⟨#[110,115,46,101,120,46,99,111,109]⟩,⟨#[119,119,119,46,99,111,109]⟩,⟨#[120,49,46,115,117,98,46,101,120,46,99,111,109]⟩]:List ByteArray) ?_;intro g7 w3 ho4 hb hg_ hnew_;clear hg_ hnew_;(first|rw[← g2.out]at ho4|(simp only[Int.reduceToNat]at ho4;rw[← g2.out]at ho4));have g0:=a0_ (Kd.R_lower ho4 (cJ (w:=w) (g:=g) (row:=none) kq_));replace HI0:=a0_ (ak.below bg hb);replace HK:=a0_ (kt_ HK (aJ.of_below hb g none) (.inl rfl));replace HB:=a0_ (aa ca hb);clear hb ho4;obtain⟨Ao5,co5,eo5⟩:=Kd.R_slice g0.out;subst eo5)|((with_reducible refine gt_ 154 rfl ?_);refine gs_ 5 Tryz.func154 #[.pointer (some ⟨g,0,none⟩),.slice Ao5 g3.length co5] ?_;(with_reducible refine(bR.c g s0_0 s0_1 s0_2 _ _ g3 g4 g5 g6 w0 _ ?side1 ?side2 ?side3 ?side4 ?side5 A2.out).mono ?_);(case side1=>exact bg);(case side2=>exact ca);(case side3=>exact kD_ (Kd.R_reads' g0.out).2.2);(case side4=>exact(Kd.R_reads' g0.out).2.1);(case side5=>exact dW (ak.own_ne HI0.out g0.out (by decide)));rintro e w6 ⟨rfl,hi,hb,hk⟩;refine⟨_,rfl,?_⟩;replace g0:=a0_ (Kd.R_mono (Kd.R_keep (ak.apart (show ak w0 _ g s0_0 s0_1 s0_2 from bg) (kR_ g0.out) (by decide)) hk (fun _ h=>h.2)) (fun _ h=>h.1));replace HK:=a0_ (kt_ HK hk (.inl rfl));replace HB:=a0_ (hb);replace HI0:=a0_ (hi);clear hb hk hi));go_ret;exact⟨rr_,bg,ca,kq_⟩
end Go.Proofs.YtiegkjimpclmaaaGreatDoor.P
namespace Go.Proofs.YtiegkjimpclmaaaGreatDoor.P
open Go.Shelf
end Go.Proofs.YtiegkjimpclmaaaGreatDoor.P
namespace Go.Proofs.YtiegkjimpclmaaaGreatDoor.P
attribute [local go_sem] cG cD c_ cZ ci ch cE cH
def dv.f(k:Nat)(a0:ByteArray): Option (Bool):=(aw.f k a0).bind fun g0=>(some g0.2)
theorem dv.c(k:Nat)(a0:ByteArray)(r:Bool)(w:World)(h:dv.f k a0=some r):
 Calls Tryz.prog 127 #[.string a0] w fun e w'=>e = .returned (.bool r)∧Below w.heap.size w w':=by
 have HB:=a0_ (Below.refl w.heap.size w);have H:=h;clear h;unfold dv.f at H;obtain⟨⟨g0,g1⟩,A2,H⟩:=ob_ H;obtain rfl:=Option.some.inj H;go_enter Tryz.func127,Tryz.ntmps127;go_wp2_with (first|((with_reducible refine gt_ 171 rfl ?_);refine gs_ 7 Tryz.func171 #[.string a0] ?_;(with_reducible refine(aw.c k a0 g0 g1 _ A2.out).mono ?_);rintro e w3 ⟨g3,rfl,ho0,hb⟩;refine⟨_,rfl,?_⟩;have g2:=a0_ (Kd.R_lower ho0 (aj ay));replace HB:=a0_ (aa ay hb);clear hb;(try clear ho0)));go_ret;exact⟨rr_,ay⟩
def bV.f(k:Nat)(a0_0:ByteArray)(a0_1:Int)(a0_2:Int)(a0_3:ByteArray)(a1_0:ByteArray)(a1_1:Int)(a1_2:Int)(a1_3:ByteArray): Option (Int):=(dx.f k a0_0 a1_0).bind fun g0=>((dO.f a0_1 a1_1).bind fun g1=>((bN.f k (([g0,g1]:List Int))).bind fun g2=>(some g2)))
def bV.T1: Bool×List (List Nat×List Nat):=(true,[([],[]),([0],[0]),([],[]),([2],[2]),([1,3],[1,3]),([],[]),([5],[5]),([],[]),([7],[7]),([6,8,4],[6,8]),([4,9],[4,9]),([10,9],[10]),([11,11,0,1,2,3,4,5,6,7,8,9,10,11],[11])])
def bV.B1: List Nat:=[0,1,0,4,15,0,32,0,128,511,1023,2047,4095]
theorem bV.tab1: eA .any (fc Tryz.f65 1)=bV.T1:=by kernel_rfl
theorem bV.bits1: du bV.T1.2 bV.B1=true:=by kernel_rfl
theorem bV.c(k:Nat)(a0_0:ByteArray)(a0_1:Int)(a0_2:Int)(a0_3:ByteArray)(a1_0:ByteArray)(a1_1:Int)(a1_2:Int)(a1_3:ByteArray)(r:Int)(w:World)(h:bV.f k a0_0 a0_1 a0_2 a0_3 a1_0 a1_1 a1_2 a1_3=some r):
 Calls Tryz.prog 65 #[.agg #[.string a0_0,.int .i64 a0_1,.int .i64 a0_2,.string a0_3],.agg #[.string a1_0,.int .i64 a1_1,.int .i64 a1_2,.string a1_3]] w fun e w'=>e = .returned (.int .i64 r)∧Below w.heap.size w w':=by
 have hu45:=Tryz.underlying45;have HB:=a0_ (Below.refl w.heap.size w);have H:=h;clear h;unfold bV.f at H;obtain⟨g3,A3,H⟩:=ob_ H;obtain⟨g4,A4,H⟩:=ob_ H;obtain⟨j0,g6⟩:∃ y_:List Int,y_=(([g3,g4]:List Int)):=⟨_,rfl⟩;rw[← g6]at H;have g9:=a0_ g6;clear g6;obtain⟨j6,A5,H⟩:=ob_ H;obtain rfl:=Option.some.inj H;go_enter Tryz.func65,Tryz.ntmps65
 try go_wp2_with (first|((with_reducible refine ax (N:=2) rfl ?_);refine cm 2 #[.string a0_0,.int .i64 a0_1,.int .i64 a0_2,.string a0_3] 45 (fun g2 hg w6 hbox hb=>?_);have g0:=a0_ (hbox);have j2:=a0_ (gw_ hg:w.heap.size≤g2);replace HB:=a0_ (aa ay hb);have j9:=j2;clear hb hbox hg)|((with_reducible refine ax (N:=3) rfl ?_);refine cm 3 #[.string a1_0,.int .i64 a1_1,.int .i64 a1_2,.string a1_3] 45 (fun g7 hg w7 hbox hb=>?_);have g1:=a0_ (hbox);have j3:=a0_ (gw_ hg (aj aD):w.heap.size≤g7);replace HB:=a0_ (aa aD hb);have j4:=a0_ ((by rw[hg];exact Nat.ne_of_lt (cB (g:=g2) (o:=.cells #[.string a0_0,.int .i64 a0_1,.int .i64 a0_2,.string a0_3] 45 (0,0)) (kB_ g0.out)):g2≠g7));have j5:=a0_ ((by rw[hg];exact Nat.ne_of_gt (cB (g:=g2) (o:=.cells #[.string a0_0,.int .i64 a0_1,.int .i64 a0_2,.string a0_3] 45 (0,0)) (kB_ g0.out)):g7≠g2));replace g0:=a0_ (bq g0 hb);have y0:=j3;clear hb hbox hg))
 replace g0:=a0_ (az g0.out);replace g1:=a0_ (az g1.out);replace HB:=a0_ (bp HB.out)
 refine fN 13 [] (cb_ g0.out (eb_ g1.out)) (fun hHeld=>?_);refine ck bV.tab1 bV.bits1 (fun HT_ HW_=>?_)
 generalize w7.drew=w8 at g0 g1 HB hHeld ⊢
 refine p_ 0 5 ?_
 refine p_ 2 7 ?_
 refine p_ 5 10 ?_
 refine p_ 7 12 ?_
 refine t_ 1 6 ?_
 refine t_ 3 8 ?_
 refine t_ 6 11 ?_
 refine t_ 8 13 ?_
 refine dg 4 (some 9) (fun K hK=>?_)
 refine dm Tryz.func132 (by kernel_rfl) rfl #[.string a0_0,.string a1_0] (by rfl) rfl rfl cS ?_
 with_reducible refine(dx.c k a0_0 a1_0 g3 _ A3.out).mono ?_
 rintro e w9 ⟨rfl,hb⟩;refine⟨_,rfl,?_⟩;replace g0:=a0_ (bq g0 hb);replace g1:=a0_ (bq g1 hb);replace HB:=a0_ (aa aD hb)
 (try clear hb)
 (try clear hb2)
 (try clear hk)
 (try clear hi)
 refine hK.out _ _ (cb_ g0.out (eb_ g1.out)).out (fun hHeld=>?_);clear hK K
 refine cU ?_
 refine dg 9 (some 14) (fun K hK=>?_)
 refine dm Tryz.func133 (by kernel_rfl) rfl #[.int .i64 a0_1,.int .i64 a1_1] (by rfl) rfl rfl cS ?_
 with_reducible refine(dO.c a0_1 a1_1 g4 _ A4.out).mono ?_
 rintro e w' ⟨rfl,⟨nd,rfl⟩⟩;refine⟨_,rfl,?_⟩;refine hK.out _ _ (cb_ g0.out (eb_ g1.out)).out (fun hHeld=>?_);clear hK K
 refine cU ?_
 refine dg 10 (some 15) (fun K hK=>?_)
 refine Kd.R_lit_step (Kd.int .i64) _ 3 ?hg (N:=15) ?hd (xs:=([g3,g4]:List Int)) (inner:=[.int .i64 g3,.int .i64 g4]) (ok:=fun _=>True) (okp:=fun _=>True) ?hr ?hp (fun _ hk=>hk) trivial (Below.refl _ _) (Nat.le_refl _) (by simp) ?_;(case hd=>rfl);(case hg=>rfl);(case hr=>first|(go_simp;done)|(go_simp;rfl));(case hp=>exact(br.one (show Kd.M (Kd.int .i64) _ _ _ g3 [.int .i64 g3]from rfl) (br.one (show Kd.M (Kd.int .i64) _ _ _ g4 [.int .i64 g4]from rfl) (br.none _ _))))
 intro y1 y2 g5 hb hg_ hnew_;clear hg_ hnew_
 (first|rw[← g9.out]at g5|(simp only[Int.reduceToNat]at g5;rw[← g9.out]at g5))
 have g8:=a0_ (Kd.R_lower g5 (aj aD));replace g0:=a0_ (bq g0 hb);replace g1:=a0_ (bq g1 hb);replace HB:=a0_ (aa aD hb);clear hb g5;obtain⟨j7,j8,j1⟩:=Kd.R_slice g8.out
 (first|subst j1|(injection j1 with f1_ f2_ f3_;have f4_:=f1_.symm;have f5_:=f3_.symm;clear f1_ f2_ f3_;subst f4_;subst f5_))
 refine hK.out _ _ (cb_ g0.out (eb_ g1.out)).out (fun hHeld=>?_);clear hK K
 refine cU ?_
 refine dg 11 (some 16) (fun K hK=>?_)
 refine dm Tryz.func131 (by kernel_rfl) rfl #[.slice j7 j0.length j8] (by rfl) rfl rfl cS ?_
 with_reducible refine(bN.c k _ _ j0 j6 _ ?side1 ?side2 A5.out).mono ?_
 (case side1=>exact kD_ (Kd.R_reads' g8.out).2.2)
 (case side2=>exact(Kd.R_reads' g8.out).2.1)
 rintro e w' ⟨rfl,⟨nd,rfl⟩⟩;refine⟨_,rfl,?_⟩;refine hK.out _ _ (cb_ g0.out (eb_ g1.out)).out (fun hHeld=>?_);clear hK K
 refine cU ?_
 refine p_ 12 4 ?_
 refine dZ (db HT_.out (by kernel_rfl)) ?_
 try go_wp2
 go_ret;exact⟨rr_,aD⟩
theorem jg(l:List UInt8): l.isEmpty = !(l != []):=by cases l<;>rfl
def a_.l0: Nat→ByteArray→Bool→List ByteArray→Int→Int→Option (Bool)
 | 0,_,_,_,_,_=>none
 | k+1,x0,x4,g1,g2,g0=>if g0<g2 then(if 0≤g0 then(if g0<(g1.length:Int)then(if x4=true then(a_.l0 k x0 ((bn ByteArray.empty g1 g0).toList !=([42]:List UInt8)) g1 g2 (wrap64 (g0+1)))else(a_.l0 k x0 false g1 g2 (wrap64 (g0+1))))else(none))else(none))else(if x4=true then(some (x0.toList !=([]:List UInt8)))else(some false))
def a_.f(k:Nat)(a0:ByteArray): Option (Bool):=(aw.f k a0).bind fun g0=>(a_.l0 k a0 g0.2 g0.1 (g0.1.length:Int) 0)
theorem a_.mono_l: ∀ k,(∀ y0 y1 y2 y3 y4,LeO (a_.l0 k y0 y1 y2 y3 y4) (a_.l0 (k+1) y0 y1 y2 y3 y4))
 | 0=>fun _ _ _ _ _ r h=>by simp[a_.l0]at h
 | k+1=>by
  have ih0:=a_.mono_l k
  · intro y0 y1 y2 y3 y4
    unfold a_.l0
    repeat' first|(with_reducible first|exact ih0 _ _ _ _ _|exact aw.m _ _|exact LeO.refl _|exact LeO.none _|refine LeO.ite ?_ ?_|refine LeO.bind ?_ (fun _=>?_))|exact LeO.none _|refine LeO.ite ?_ ?_|refine LeO.bind ?_ (fun _=>?_)
theorem a_.m: ∀ a0 k,LeO (a_.f k a0) (a_.f (k+1) a0):=by
 intro a0 k;have ih0:=a_.mono_l k;unfold a_.f
 repeat' first|(with_reducible first|exact ih0 _ _ _ _ _|exact aw.m _ _|exact LeO.refl _|exact LeO.none _|refine LeO.ite ?_ ?_|refine LeO.bind ?_ (fun _=>?_))|exact LeO.none _|refine LeO.ite ?_ ?_|refine LeO.bind ?_ (fun _=>?_)
theorem a_.c(k:Nat)(a0:ByteArray)(r:Bool)(w:World)(h:a_.f k a0=some r):
 Calls Tryz.prog 119 #[.string a0] w fun e w'=>e = .returned (.bool r)∧Below w.heap.size w w':=by
 have HB:=a0_ (Below.refl w.heap.size w);have H:=h;clear h;unfold a_.f at H;obtain⟨⟨g1,g8⟩,A2,H⟩:=ob_ H;have H':=a0_ H;clear H;go_enter Tryz.func119,Tryz.ntmps119;go_wp2_with (first|((with_reducible refine gt_ 171 rfl ?_);refine gs_ 9 Tryz.func171 #[.string a0] ?_;(with_reducible refine(aw.c k a0 g1 g8 _ A2.out).mono ?_);rintro e w3 ⟨j1,rfl,ho0,hb⟩;refine⟨_,rfl,?_⟩;have g6:=a0_ (Kd.R_lower ho0 (aj ay));replace HB:=a0_ (aa ay hb);clear hb;(try clear ho0);obtain⟨Ao4,co4,eo4⟩:=Kd.R_slice g6.out;subst eo4));go_loopg [4,14] k (fun kq v4 j0 w'=> ∃ (x4_1:Bool) (g0:Int),v4 = .bool x4_1∧j0 = .int .i64 g0∧ab (a_.l0 kq a0 x4_1 g1 (g1.length:Int) g0=some r)∧ab (kq≤k)∧ab (Kd.R Kd.string 9 w' w.heap.size (fun _=>True) (.slice Ao4 g1.length co4) g1)∧ab (Below w.heap.size w w'))
 case atStart=>exact⟨(g8),(0),rs_,rs_,H',⟨Nat.le_refl _⟩,⟨kR_ g6.out⟩,⟨ay⟩⟩
 case round=>
  clear H';obtain⟨x4_1,g0,rfl,rfl,HA,HK1,g2,HB⟩:=hrel
  cases gk with
  | zero=>exact absurd HA.out (by simp[a_.l0])
  | succ k1=>
   have H:=HA.out;clear HA;simp only[a_.l0]at H
   by_cases c5:g0<(g1.length:Int)
   case neg=>
    rw[if_neg c5]at H;have c5b0:=decide_eq_false c5;clear c5
    by_cases c9:x4_1=true
    case pos=>
     subst c9;rw[if_pos rfl]at H;obtain rfl:=Option.some.inj H;go_wp2;go_ret;exact⟨by first|rfl|(simp[bY,bZ]<;>rfl)|(simp[*,bY,bZ]<;>rfl)|(simp[bY,bZ];exact jg _),ay⟩
    replace c9:=Bool.eq_false_iff.mpr c9;subst c9;rw[if_neg ff_]at H;obtain rfl:=Option.some.inj H;go_wp2;go_ret;exact⟨by first|rfl|(simp[bY,bZ]<;>rfl)|(simp[*,bY,bZ]<;>rfl)|(simp[bY,bZ];exact jg _),ay⟩
   rw[if_pos c5]at H;have c5b0:=decide_eq_true c5;clear c5
   by_cases c6:0≤g0
   case neg=>
    rw[if_neg c6]at H;exact absurd H (by simp)
   rw[if_pos c6]at H;have c6b0:=decide_eq_true c6;clear c6
   by_cases c7:g0<(g1.length:Int)
   case neg=>
    rw[if_neg c7]at H;exact absurd H (by simp)
   rw[if_pos c7]at H;have c7b0:=decide_eq_true c7;clear c7
   by_cases c8:x4_1=true
   case pos=>
    subst c8;rw[if_pos rfl]at H;have H':=a0_ H;clear H;have g3:=t0_ (g0);have g4:=tl_ (g0) (g1.length);obtain⟨g9,g5,g7⟩:=Kd.at_string (Kd.R_reads' g2.out).2.2 g0 (of_eq_true g3) (of_eq_true g4);cases g5;go_wp2;go_roundg k1
    case measure=>have:=HK1.out;omega
    case rel=>exact⟨(((bn ByteArray.empty g1 g0).toList !=([42]:List UInt8))),(wrap64 (g0+1)),rs_,rs_,H',jl_ HK1,⟨kR_ g2.out⟩,⟨ay⟩⟩
   replace c8:=Bool.eq_false_iff.mpr c8;subst c8;rw[if_neg ff_]at H;have H':=a0_ H;clear H;have g3:=t0_ (g0);have g4:=tl_ (g0) (g1.length);obtain⟨g9,g5,g7⟩:=Kd.at_string (Kd.R_reads' g2.out).2.2 g0 (of_eq_true g3) (of_eq_true g4);cases g5;go_wp2;go_roundg k1
   case measure=>have:=HK1.out;omega
   case rel=>exact⟨(false),(wrap64 (g0+1)),rs_,rs_,H',jl_ HK1,⟨kR_ g2.out⟩,⟨ay⟩⟩
def bh.l0: Nat→ByteArray→List ByteArray→Int→Int→Option (ByteArray)
 | 0,_,_,_,_=>none
 | k+1,x5,g1,g3,g0=>if g0<g3 then(if 0≤g0 then(if g0<(g1.length:Int)then((some (([(((bn ByteArray.empty g1 g0).size:Int))%256]:List Int):List Int)).bind fun g2=>(if(strOfNums g2).size+(bn ByteArray.empty g1 g0).size≤9223372036854775807 then(if x5.size+((strOfNums g2)++(bn ByteArray.empty g1 g0)).size≤9223372036854775807 then(bh.l0 k (x5++((strOfNums g2)++(bn ByteArray.empty g1 g0))) g1 g3 (wrap64 (g0+1)))else(none))else(none)))else(none))else(none))else(if x5.size+1≤9223372036854775807 then(some (x5++(⟨#[0]⟩:ByteArray)))else(none))
def bh.f(k:Nat)(a0:ByteArray): Option (ByteArray):=(aw.f k a0).bind fun g0=>(bh.l0 k (⟨#[]⟩:ByteArray) g0.1 (g0.1.length:Int) 0)
theorem bh.mono_l: ∀ k,(∀ y0 y1 y2 y3,LeO (bh.l0 k y0 y1 y2 y3) (bh.l0 (k+1) y0 y1 y2 y3))
 | 0=>fun _ _ _ _ r h=>by simp[bh.l0]at h
 | k+1=>by
  have ih0:=bh.mono_l k
  · intro y0 y1 y2 y3
    unfold bh.l0
    repeat' first|(with_reducible first|exact ih0 _ _ _ _|exact aw.m _ _|exact LeO.refl _|exact LeO.none _|refine LeO.ite ?_ ?_|refine LeO.bind ?_ (fun _=>?_))|exact LeO.none _|refine LeO.ite ?_ ?_|refine LeO.bind ?_ (fun _=>?_)
theorem bh.m: ∀ a0 k,LeO (bh.f k a0) (bh.f (k+1) a0):=by
 intro a0 k;have ih0:=bh.mono_l k;unfold bh.f
 repeat' first|(with_reducible first|exact ih0 _ _ _ _|exact aw.m _ _|exact LeO.refl _|exact LeO.none _|refine LeO.ite ?_ ?_|refine LeO.bind ?_ (fun _=>?_))|exact LeO.none _|refine LeO.ite ?_ ?_|refine LeO.bind ?_ (fun _=>?_)
theorem bh.c(k:Nat)(a0:ByteArray)(r:ByteArray)(w:World)(h:bh.f k a0=some r):
 Calls Tryz.prog 120 #[.string a0] w fun e w'=>e = .returned (.string r)∧Below w.heap.size w w':=by
 have HB:=a0_ (Below.refl w.heap.size w);have H:=h;clear h;unfold bh.f at H;obtain⟨⟨g1,j0⟩,A2,H⟩:=ob_ H;have H':=a0_ H;clear H;go_enter Tryz.func120,Tryz.ntmps120;go_wp2_with (first|((with_reducible refine gt_ 171 rfl ?_);refine gs_ 10 Tryz.func171 #[.string a0] ?_;(with_reducible refine(aw.c k a0 g1 j0 _ A2.out).mono ?_);rintro e w3 ⟨y0,rfl,ho0,hb⟩;refine⟨_,rfl,?_⟩;have g7:=a0_ (Kd.R_lower ho0 (aj ay));replace HB:=a0_ (aa ay hb);clear hb;(try clear ho0);obtain⟨Ao4,co4,eo4⟩:=Kd.R_slice g7.out;subst eo4));go_loopg [5,15] k (fun kq v5 j5 w'=> ∃ (x5_1:ByteArray) (g0:Int),v5 = .string x5_1∧j5 = .int .i64 g0∧ab (bh.l0 kq x5_1 g1 (g1.length:Int) g0=some r)∧ab (kq≤k)∧ab (Kd.R Kd.string 9 w' w.heap.size (fun _=>True) (.slice Ao4 g1.length co4) g1)∧ab (Below w.heap.size w w'))
 case atStart=>exact⟨((⟨#[]⟩:ByteArray)),(0),rs_,rs_,H',⟨Nat.le_refl _⟩,⟨kR_ g7.out⟩,⟨ay⟩⟩
 case round=>
  clear H';obtain⟨x5_1,g0,rfl,rfl,HA,HK1,g2,HB⟩:=hrel
  cases gk with
  | zero=>exact absurd HA.out (by simp[bh.l0])
  | succ k1=>
   have H:=HA.out;clear HA;simp only[bh.l0]at H
   by_cases c5:g0<(g1.length:Int)
   case neg=>
    rw[if_neg c5]at H;have c5b0:=decide_eq_false c5;clear c5
    by_cases g6:x5_1.size+1≤9223372036854775807
    case neg=>
     rw[if_neg g6]at H;exact absurd H (by simp)
    rw[if_pos g6]at H;have j6:=eq_true g6;have j7:=decide_eq_true g6
    try have j8:(9223372036854775807<x5_1.size+1)=False:=eq_false (Nat.not_lt.2 g6)
    obtain rfl:=Option.some.inj H;go_wp2;go_ret;exact⟨rr_,ay⟩
   rw[if_pos c5]at H;have c5b0:=decide_eq_true c5;clear c5
   by_cases c6:0≤g0
   case neg=>
    rw[if_neg c6]at H;exact absurd H (by simp)
   rw[if_pos c6]at H;have c6b0:=decide_eq_true c6;clear c6
   by_cases c7:g0<(g1.length:Int)
   case neg=>
    rw[if_neg c7]at H;exact absurd H (by simp)
   rw[if_pos c7]at H;have c7b0:=decide_eq_true c7;clear c7;obtain⟨g3,g5⟩:∃ y_:List Int,y_=(([(((bn ByteArray.empty g1 g0).size:Int))%256]:List Int)):=⟨_,rfl⟩;replace H:=by_ g5 H;have g8:=a0_ g5;clear g5
   by_cases c8:(strOfNums g3).size+(bn ByteArray.empty g1 g0).size≤9223372036854775807
   case neg=>
    rw[if_neg c8]at H;exact absurd H (by simp)
   rw[if_pos c8]at H;have c8b0:=eq_true c8;have c8b1:=decide_eq_true c8
   try have c8b2:(9223372036854775807<(strOfNums g3).size+(bn ByteArray.empty g1 g0).size)=False:=eq_false (Nat.not_lt.2 c8)
   by_cases c9:x5_1.size+((strOfNums g3)++(bn ByteArray.empty g1 g0)).size≤9223372036854775807
   case neg=>
    rw[if_neg c9]at H;exact absurd H (by simp)
   rw[if_pos c9]at H;have c9b0:=eq_true c9;have c9b1:=decide_eq_true c9
   try have c9b2:(9223372036854775807<x5_1.size+((strOfNums g3)++(bn ByteArray.empty g1 g0)).size)=False:=eq_false (Nat.not_lt.2 c9)
   have H':=a0_ H;clear H;have j1:=t0_ (g0);have j2:=tl_ (g0) (g1.length);obtain⟨j9,j3,j4⟩:=Kd.at_string (Kd.R_reads' g2.out).2.2 g0 (of_eq_true j1) (of_eq_true j2);cases j3;go_wp2_with (first|((with_reducible refine ax (N:=23) rfl ?_);refine Kd.R_lit (Kd.int .u8) _ 5 ?hg (N:=23) ?hd (xs:=([(((bn ByteArray.empty g1 g0).size:Int))%256]:List Int)) (inner:=[.int .u8 ((((bn ByteArray.empty g1 g0).size:Int))%256)]) (ok:=fun _=>True) (okp:=fun _=>True) ?hr ?hp (fun _ hk=>hk) trivial (Below.refl _ _) (Nat.le_refl _) (by simp) ?_;(case hd=>rfl);(case hg=>rfl);(case hr=>first|(go_simp;done)|(go_simp;rfl));(case hp=>exact(br.one (show Kd.M (Kd.int .u8) _ _ _ ((((bn ByteArray.empty g1 g0).size:Int))%256) [.int .u8 ((((bn ByteArray.empty g1 g0).size:Int))%256)]from rfl) (br.none _ _)));intro y1 y2 g4 hb hg_ hnew_;clear hg_ hnew_;(first|rw[← g8.out]at g4|(simp only[Int.reduceToNat]at g4;rw[← g8.out]at g4));replace g2:=a0_ (Kd.R_below (kR_ g2.out) hb);have g9:=a0_ (Kd.R_lower g4 (aj ay));replace HB:=a0_ (aa ay hb);clear hb g4;have hcv12:=ea (P:=Tryz.prog) Tryz.underlying43 Tryz.underlying5 Tryz.underlying9 (Kd.own_of_R g9.out)));go_roundg k1
   case measure=>have:=HK1.out;omega
   case rel=>exact⟨(x5_1++((strOfNums g3)++(bn ByteArray.empty g1 g0))),(wrap64 (g0+1)),rs_,rs_,H',jl_ HK1,⟨kR_ g2.out⟩,⟨ay⟩⟩
mutual
def bf.j1: Nat→List Int→Int→Int→ByteArray→Int→Int→ByteArray→Option (ByteArray×Int×Int×ByteArray×Int×Int)
 | 0,_,_,_,_,_,_,_=>none
 | k+1,g5,g9,j0,g1,g2,g3,g4=>(aM.f g5 g9 j0 40).bind fun g0=>(if g0.1=0 then((bL.f g5 g0.2.1 g0.2.2 (([(-1),0,100000,100001]:List Int))).bind fun g6=>(some (g1,g2,g6.1,g4,g6.2.1,g6.2.2)))else(if g0.1=1 then((bR.f g5 g0.2.1 g0.2.2 (([⟨#[49,46,50,46,51]⟩,⟨#[50,53,54,46,49,46,49,46,49]⟩,⟨#[42]⟩,⟨#[52,50,57,52,57,54,55,50,57,53]⟩,⟨#[52,50,57,52,57,54,55,50,57,54]⟩,⟨#[55,48,48,48,48,32,97,46,98]⟩,⟨#[48,49,46,50,46,51,46,52]⟩,⟨#[1]⟩]:List ByteArray))).bind fun g7=>(some (g1,g2,g3,g7.1,g7.2.1,g7.2.2)))else(if g0.1=2 then((aM.f g5 g0.2.1 g0.2.2 20).bind fun g8=>(some (g1,g8.1,g3,g4,g8.2.1,g8.2.2)))else(some (g1,g2,g3,g4,g0.2.1,g0.2.2)))))
def bf.j0: Nat→Int→Bool→List Int→Int→Int→ByteArray→Int→Int→ByteArray→Option (ByteArray×Int×Int×ByteArray×Int×Int)
 | 0,_,_,_,_,_,_,_,_,_=>none
 | k+1,j4,j7,g0,g4,g5,g1,g2,g3,j6=>if j7=true then((cT.f g0 g4 g5).bind fun g7=>(bf.j1 k g0 g7.2.1 g7.2.2 g1 g2 g3 g7.1))else(if j4=6 then((aM.f g0 g4 g5 20).bind fun g8=>((bX.f k g8.1).bind fun j5=>(bf.j1 k g0 g8.2.1 g8.2.2 g1 g2 g3 j5)))else(if j4=15 then((aM.f g0 g4 g5 30).bind fun g9=>((bX.f k g9.1).bind fun j3=>(if j3.size+1≤9223372036854775807 then((cT.f g0 g9.2.1 g9.2.2).bind fun g6=>(if(j3++(⟨#[32]⟩:ByteArray)).size+g6.1.size≤9223372036854775807 then(bf.j1 k g0 g6.2.1 g6.2.2 g1 g2 g3 ((j3++(⟨#[32]⟩:ByteArray))++g6.1))else(none)))else(none))))else((bR.f g0 g4 g5 (([⟨#[104,101,108,108,111]⟩,⟨#[]⟩,⟨#[118,61,49,32,120]⟩]:List ByteArray))).bind fun j2=>(bf.j1 k g0 j2.2.1 j2.2.2 g1 g2 g3 j2.1))))
end
def bf.f(k:Nat)(s0_0:List Int)(s0_1:Int)(s0_2:Int): Option (ByteArray×Int×Int×ByteArray×Int×Int):=(bb.f k s0_0 s0_1 s0_2).bind fun g2=>((bL.f s0_0 g2.2.1 g2.2.2 (([1,1,1,2,5,15,16,6]:List Int))).bind fun g0=>((bL.f s0_0 g0.2.1 g0.2.2 (([5,60,60,300]:List Int))).bind fun g1=>(if g0.1=1 then((bR.f s0_0 g1.2.1 g1.2.2 (([⟨#[49,46,50,46,51,46,52]⟩,⟨#[49,46,50,46,51,46,53]⟩,⟨#[49,48,46,48,46,48,46,49]⟩,⟨#[57,46,57,46,57,46,57]⟩]:List ByteArray))).bind fun g3=>(bf.j1 k s0_0 g3.2.1 g3.2.2 g2.1 g0.1 g1.1 g3.1))else(if g0.1=2 then(bf.j0 k g0.1 (g0.1==2) s0_0 g1.2.1 g1.2.2 g2.1 g0.1 g1.1 (⟨#[]⟩:ByteArray))else(bf.j0 k g0.1 (g0.1==5) s0_0 g1.2.1 g1.2.2 g2.1 g0.1 g1.1 (⟨#[]⟩:ByteArray))))))
theorem bf.c(k:Nat)(g:Nat)(s0_0:List Int)(s0_1:Int)(s0_2:Int)(r1:ByteArray)(r2:Int)(r3:Int)(r4:ByteArray)(r5:Int)(r6:Int)(w0 w:World)(hI:ak w0 w g s0_0 s0_1 s0_2)(hB:Below w0.heap.size w0 w)(h:bf.f k s0_0 s0_1 s0_2=some (r1,r2,r3,r4,r5,r6)):
 Calls Tryz.prog 97 #[.pointer (some ⟨g,0,none⟩)] w fun e w'=>e = .returned (.agg #[.string r1,.int .i64 r2,.int .i64 r3,.string r4])∧ak w0 w' g s0_0 r5 r6∧Below w0.heap.size w0 w'∧aJ w w' g none:=by
 have hu45:=Tryz.underlying45;have HI0:=a0_ hI;have HK:=a0_ (aJ.refl w g none);have HL:=a0_ hB.size;clear hI;have HW0:=a0_ hB.size;have HB:=a0_ hB;clear hB;have H:=h;clear h;unfold bf.f at H;obtain⟨⟨g6,z8,z9⟩,A2,H⟩:=ob_ H;obtain⟨V0,d7⟩:∃ y_:List Int,y_=(([1,1,1,2,5,15,16,6]:List Int)):=⟨_,rfl⟩;rw[← d7]at H;have f4:=a0_ d7;clear d7;obtain⟨⟨g5,d8,d9⟩,A3,H⟩:=ob_ H;obtain⟨V1,z0⟩:∃ y_:List Int,y_=(([5,60,60,300]:List Int)):=⟨_,rfl⟩;rw[← z0]at H;have f5:=a0_ z0;clear z0;obtain⟨⟨j3,j5,j6⟩,A4,H⟩:=ob_ H;have HC5:=a0_ H;clear H;go_enter Tryz.func97,Tryz.ntmps97;go_upto_block 0 with(first|((with_reducible refine ax (N:=2) rfl ?_);refine cm 2 #[.string (⟨#[]⟩:ByteArray),.int .i64 0,.int .i64 0,.string (⟨#[]⟩:ByteArray)] 45 (fun g9 hg w6 hbox hb=>?_);replace HB:=a0_ (aa ca hb);have g0:=a0_ (hbox);have F7:=a0_ ((by rw[hg];exact(cJ (w:=w) (g:=g) (row:=none) kq_):w.heap.size≤g9));have F8:=a0_ ((Nat.le_trans HW0.out (by rw[hg];exact(cJ (w:=w) (g:=g) (row:=none) kq_):w.heap.size≤g9):w0.heap.size≤g9));replace HK:=a0_ (kt_ HK (aJ.of_below hb g none) (.inl rfl));have NB0_646:=a0_ ((by rw[hg];exact Nat.ne_of_lt (ak.lt (show ak w0 _ g s0_0 s0_1 s0_2 from bg)):g≠g9));have g4:=a0_ ((by rw[hg];exact Nat.ne_of_gt (ak.lt (show ak w0 _ g s0_0 s0_1 s0_2 from bg)):g9≠g));replace HI0:=a0_ (ak.below bg hb);clear hb hbox hg)|((with_reducible refine gt_ 112 rfl ?_);refine gs_ 5 Tryz.func112 #[.pointer (some ⟨g,0,none⟩)] ?_;(with_reducible refine(bb.c k g s0_0 s0_1 s0_2 g6 z8 z9 w0 _ ?side1 ?side2 A2.out).mono ?_);(case side1=>exact bg);(case side2=>exact ca);rintro e w7 ⟨rfl,hi,hb,hk⟩;refine⟨_,rfl,?_⟩;replace g0:=a0_ (kk_ g0 hk g4.out);replace HK:=a0_ (kt_ HK hk (.inl rfl));replace HB:=a0_ (hb);replace HI0:=a0_ (hi);clear hb hk hi)|((with_reducible refine ax (N:=7) rfl ?_);refine Kd.R_lit (Kd.int .i64) _ 3 ?hg (N:=7) ?hd (xs:=([1,1,1,2,5,15,16,6]:List Int)) (inner:=[.int .i64 1,.int .i64 1,.int .i64 1,.int .i64 2,.int .i64 5,.int .i64 15,.int .i64 16,.int .i64 6]) (ok:=fun _=>True) (okp:=fun _=>True) ?hr ?hp (fun _ hk=>hk) trivial (Below.refl _ _) (Nat.le_refl _) (by simp) ?_;(case hd=>rfl);(case hg=>rfl);(case hr=>first|(go_simp;done)|(go_simp;rfl));(case hp=>exact(br.one (show Kd.M (Kd.int .i64) _ _ _ 1 [.int .i64 1]from rfl) (br.one (show Kd.M (Kd.int .i64) _ _ _ 1 [.int .i64 1]from rfl) (br.one (show Kd.M (Kd.int .i64) _ _ _ 1 [.int .i64 1]from rfl) (br.one (show Kd.M (Kd.int .i64) _ _ _ 2 [.int .i64 2]from rfl) (br.one (show Kd.M (Kd.int .i64) _ _ _ 5 [.int .i64 5]from rfl) (br.one (show Kd.M (Kd.int .i64) _ _ _ 15 [.int .i64 15]from rfl) (br.one (show Kd.M (Kd.int .i64) _ _ _ 16 [.int .i64 16]from rfl) (br.one (show Kd.M (Kd.int .i64) _ _ _ 6 [.int .i64 6]from rfl) (br.none _ _))))))))));intro C0 w8 ho9 hb hg_ hnew_;clear hg_ hnew_;(first|rw[← f4.out]at ho9|(simp only[Int.reduceToNat]at ho9;rw[← f4.out]at ho9));have g8:=a0_ (Kd.R_lower ho9 (cJ (w:=w) (g:=g) (row:=none) kq_));replace HI0:=a0_ (ak.below bg hb);replace g0:=a0_ (bq g0 hb);replace HK:=a0_ (kt_ HK (aJ.of_below hb g none) (.inl rfl));replace HB:=a0_ (aa ca hb);clear hb ho9;obtain⟨Q4,Q5,Q6⟩:=Kd.R_slice g8.out;subst Q6)|((with_reducible refine gt_ 114 rfl ?_);refine gs_ 8 Tryz.func114 #[.pointer (some ⟨g,0,none⟩),.slice Q4 V0.length Q5] ?_;(with_reducible refine(bL.c g s0_0 z8 z9 _ _ V0 g5 d8 d9 w0 _ ?side1 ?side2 ?side3 ?side4 ?side5 A3.out).mono ?_);(case side1=>exact bg);(case side2=>exact ca);(case side3=>exact kD_ (Kd.R_reads' g8.out).2.2);(case side4=>exact(Kd.R_reads' g8.out).2.1);(case side5=>exact dW (ak.own_ne HI0.out g8.out (by decide)));rintro e C6 ⟨rfl,hi,hb,hk⟩;refine⟨_,rfl,?_⟩;replace g0:=a0_ (kk_ g0 hk g4.out);replace g8:=a0_ (Kd.R_mono (Kd.R_keep (ak.apart (show ak w0 _ g s0_0 z8 z9 from bg) (kR_ g8.out) (by decide)) hk (fun _ h=>h.2)) (fun _ h=>h.1));replace HK:=a0_ (kt_ HK hk (.inl rfl));replace HB:=a0_ (hb);replace HI0:=a0_ (hi);clear hb hk hi)|((with_reducible refine ax (N:=10) rfl ?_);refine Kd.R_lit (Kd.int .i64) _ 3 ?hg (N:=10) ?hd (xs:=([5,60,60,300]:List Int)) (inner:=[.int .i64 5,.int .i64 60,.int .i64 60,.int .i64 300]) (ok:=fun _=>True) (okp:=fun _=>True) ?hr ?hp (fun _ hk=>hk) trivial (Below.refl _ _) (Nat.le_refl _) (by simp) ?_;(case hd=>rfl);(case hg=>rfl);(case hr=>first|(go_simp;done)|(go_simp;rfl));(case hp=>exact(br.one (show Kd.M (Kd.int .i64) _ _ _ 5 [.int .i64 5]from rfl) (br.one (show Kd.M (Kd.int .i64) _ _ _ 60 [.int .i64 60]from rfl) (br.one (show Kd.M (Kd.int .i64) _ _ _ 60 [.int .i64 60]from rfl) (br.one (show Kd.M (Kd.int .i64) _ _ _ 300 [.int .i64 300]from rfl) (br.none _ _))))));intro C1 C7 b2 hb hg_ hnew_;clear hg_ hnew_;(first|rw[← f5.out]at b2|(simp only[Int.reduceToNat]at b2;rw[← f5.out]at b2));have j4:=a0_ (Kd.R_lower (Kd.R_new' b2 (Kd.R_lt (kR_ g8.out))) (cJ (w:=w) (g:=g) (row:=none) kq_));replace g8:=a0_ (Kd.R_elder' (kR_ g8.out) (Kd.R_base b2) hb);replace HI0:=a0_ (ak.below bg hb);replace g0:=a0_ (bq g0 hb);replace HK:=a0_ (kt_ HK (aJ.of_below hb g none) (.inl rfl));replace HB:=a0_ (aa ca hb);clear hb b2;obtain⟨Q7,Q8,Q9⟩:=Kd.R_slice j4.out;subst Q9)|((with_reducible refine gt_ 114 rfl ?_);refine gs_ 11 Tryz.func114 #[.pointer (some ⟨g,0,none⟩),.slice Q7 V1.length Q8] ?_;(with_reducible refine(bL.c g s0_0 d8 d9 _ _ V1 j3 j5 j6 w0 _ ?side1 ?side2 ?side3 ?side4 ?side5 A4.out).mono ?_);(case side1=>exact bg);(case side2=>exact ca);(case side3=>exact kD_ (Kd.R_reads' j4.out).2.2);(case side4=>exact(Kd.R_reads' j4.out).2.1);(case side5=>exact dW (ak.own_ne HI0.out j4.out (by decide)));rintro e C8 ⟨rfl,hi,hb,hk⟩;refine⟨_,rfl,?_⟩;replace g0:=a0_ (kk_ g0 hk g4.out);replace g8:=a0_ (Kd.R_mono (Kd.R_keep (ak.apart (show ak w0 _ g s0_0 d8 d9 from bg) (kR_ g8.out) (by decide)) hk (fun _ h=>h.2)) (fun _ h=>h.1));replace j4:=a0_ (Kd.R_mono (Kd.R_keep (ak.apart (show ak w0 _ g s0_0 d8 d9 from bg) (kR_ j4.out) (by decide)) hk (fun _ h=>h.2)) (fun _ h=>h.1));replace HK:=a0_ (kt_ HK hk (.inl rfl));replace HB:=a0_ (hb);replace HI0:=a0_ (hi);clear hb hk hi)|((with_reducible refine ax (N:=3) rfl ?_);refine cm 3 #[.string (⟨#[]⟩:ByteArray),.int .i64 0,.int .i64 0,.string (⟨#[]⟩:ByteArray)] 45 (fun j2 hg Y8 hbox hb=>?_);replace g8:=a0_ (Kd.R_below (kR_ g8.out) hb);replace j4:=a0_ (Kd.R_below (kR_ j4.out) hb);replace HB:=a0_ (aa ca hb);have g1:=a0_ (hbox);have F9:=a0_ ((by rw[hg];exact(cJ (w:=w) (g:=g) (row:=none) kq_):w.heap.size≤j2));have N0:=a0_ ((Nat.le_trans HW0.out (by rw[hg];exact(cJ (w:=w) (g:=g) (row:=none) kq_):w.heap.size≤j2):w0.heap.size≤j2));replace HK:=a0_ (kt_ HK (aJ.of_below hb g none) (.inl rfl));have g3:=a0_ ((by rw[hg];exact Nat.ne_of_lt (cB (g:=g9) (o:=.cells #[.string (⟨#[]⟩:ByteArray),.int .i64 0,.int .i64 0,.string (⟨#[]⟩:ByteArray)] 45 (0,0)) (kB_ g0.out)):g9≠j2));have g7:=a0_ ((by rw[hg];exact Nat.ne_of_gt (cB (g:=g9) (o:=.cells #[.string (⟨#[]⟩:ByteArray),.int .i64 0,.int .i64 0,.string (⟨#[]⟩:ByteArray)] 45 (0,0)) (kB_ g0.out)):j2≠g9));replace g0:=a0_ (bq g0 hb);have NB0_662:=a0_ ((by rw[hg];exact Nat.ne_of_lt (ak.lt (show ak w0 _ g s0_0 j5 j6 from bg)):g≠j2));have g2:=a0_ ((by rw[hg];exact Nat.ne_of_gt (ak.lt (show ak w0 _ g s0_0 j5 j6 from bg)):j2≠g));replace HI0:=a0_ (ak.below bg hb);clear hb hbox hg;have N1:=g7.out;have N2:=g3.out;have N3:=g2.out;have N4:=NB0_662.out;obtain⟨f6,f7,f8,f9,T0,T1,T2,T3⟩:=cY g1.out))
 (try simp only[Act.put,List.setIfInBounds_toArray,List.set_cons_zero,List.set_cons_succ])
 go_cut [] (fun wc=> ∃ (kq:Nat) (j8:Int) (j9:Int) (j7:ByteArray),ab (bf.j1 kq s0_0 j8 j9 g6 g5 j3 j7=some (r1,r2,r3,r4,r5,r6))∧ab (kq≤k)∧ab (wc.heap[g9]? = some (.cells #[.string (⟨#[]⟩:ByteArray),.int .i64 0,.int .i64 0,.string (⟨#[]⟩:ByteArray)] 45 (0,0)))∧ab (wc.heap[j2]? = some (.cells #[.string g6,.int .i64 g5,.int .i64 j3,.string j7] 45 (0,0)))∧ab (ak w0 wc g s0_0 j8 j9)∧ab (aJ w wc g none)∧ab (Below w0.heap.size w0 wc))
 case first=>
  have H:=HC5.out;clear HC5
  by_cases y9:g5=1
  case pos=>
   rw[if_pos y9]at H;have y0:=beq_iff_eq.mpr y9;have z1:=bne_eq_false_iff_eq.mpr y9;clear y9
   (first|rw[y0]|(simp only[bu,bI];rw[y0])|skip)
   obtain⟨V2,z2⟩:∃ y_:List ByteArray,y_=(([⟨#[49,46,50,46,51,46,52]⟩,⟨#[49,46,50,46,51,46,53]⟩,⟨#[49,48,46,48,46,48,46,49]⟩,⟨#[57,46,57,46,57,46,57]⟩]:List ByteArray)):=⟨_,rfl⟩;rw[← z2]at H;have T4:=a0_ z2;clear z2;obtain⟨⟨V3,V4,V5⟩,Y9,H⟩:=ob_ H;have H':=a0_ H;clear H;go_wp2_with (first|((with_reducible refine ax (N:=22) rfl ?_);refine ls_ 22 9 ([⟨#[49,46,50,46,51,46,52]⟩,⟨#[49,46,50,46,51,46,53]⟩,⟨#[49,48,46,48,46,48,46,49]⟩,⟨#[57,46,57,46,57,46,57]⟩]:List ByteArray) ?_;intro C2 C9 b3 hb hg_ hnew_;clear hg_ hnew_;(first|rw[← T4.out]at b3|(simp only[Int.reduceToNat]at b3;rw[← T4.out]at b3));replace g8:=a0_ (Kd.R_below (kR_ (lF g8.out g1.out)) hb);replace j4:=a0_ (Kd.R_below (kR_ (lF j4.out g1.out)) hb);have y3:=a0_ (Kd.R_lower b3 (cJ (w:=w) (g:=g) (row:=none) kq_));replace HI0:=a0_ (ak.below (show ak w0 ((((Y8.setCell ⟨j2,0,none⟩ (.string g6)).setCell ⟨j2,1,none⟩ (.int .i64 g5)).setCell ⟨j2,2,none⟩ (.int .i64 j3)).setCell ⟨j2,3,none⟩ (.string (⟨#[]⟩:ByteArray))) g s0_0 j5 j6 from bg) hb);replace g0:=a0_ (b_ (g:=g9) (o:=.cells #[.string (⟨#[]⟩:ByteArray),.int .i64 0,.int .i64 0,.string (⟨#[]⟩:ByteArray)] 45 (0,0)) (ir g3.out g0.out) hb);replace g1:=a0_ (b_ (g:=j2) (o:=.cells #[.string g6,.int .i64 g5,.int .i64 j3,.string (⟨#[]⟩:ByteArray)] 45 (0,0)) (fl g1.out) hb);replace HK:=a0_ (kt_ HK (aJ.of_below hb g none) (.inl rfl));replace HB:=a0_ (aa ca hb);clear hb b3;obtain⟨D0,D1,D2⟩:=Kd.R_slice y3.out;subst D2)|((with_reducible refine gt_ 154 rfl ?_);refine gs_ 23 Tryz.func154 #[.pointer (some ⟨g,0,none⟩),.slice D0 V2.length D1] ?_;(with_reducible refine(bR.c g s0_0 j5 j6 _ _ V2 V3 V4 V5 w0 _ ?side1 ?side2 ?side3 ?side4 ?side5 Y9.out).mono ?_);(case side1=>exact bg);(case side2=>exact ca);(case side3=>exact kD_ (Kd.R_reads' y3.out).2.2);(case side4=>exact(Kd.R_reads' y3.out).2.1);(case side5=>exact dW (ak.own_ne HI0.out y3.out (by decide)));rintro e B0 ⟨rfl,hi,hb,hk⟩;refine⟨_,rfl,?_⟩;replace g0:=a0_ (kk_ g0 hk g4.out);replace g8:=a0_ (Kd.R_mono (Kd.R_keep (ak.apart (show ak w0 _ g s0_0 j5 j6 from bg) (kR_ g8.out) (by decide)) hk (fun _ h=>h.2)) (fun _ h=>h.1));replace j4:=a0_ (Kd.R_mono (Kd.R_keep (ak.apart (show ak w0 _ g s0_0 j5 j6 from bg) (kR_ j4.out) (by decide)) hk (fun _ h=>h.2)) (fun _ h=>h.1));replace g1:=a0_ (kk_ g1 hk g2.out);replace y3:=a0_ (Kd.R_mono (Kd.R_keep (ak.apart (show ak w0 _ g s0_0 j5 j6 from bg) (kR_ y3.out) (by decide)) hk (fun _ h=>h.2)) (fun _ h=>h.1));replace HK:=a0_ (kt_ HK hk (.inl rfl));replace HB:=a0_ (hb);replace HI0:=a0_ (hi);clear hb hk hi;have N5:=g7.out;have N6:=g3.out;have N7:=g2.out;have N8:=NB0_662.out;obtain⟨_,_,_,_,_,_,_,_⟩:=cY g1.out));go_meet
   case rel=>exact⟨_,(V4),(V5),(V3),H',⟨by first|omega|exact Nat.le_refl _⟩,⟨bz_⟩,⟨by(with_reducible repeat(first|refine aI ?_ _|refine az ?_|refine aE ?_ _));refine bE (cs:=#[.string g6,.int .i64 g5,.int .i64 j3,.string (⟨#[]⟩:ByteArray)]) ?_ 3 _ rfl;(with_reducible repeat(first|refine aI ?_ _|refine az ?_|refine aE ?_ _));exact g1.out⟩,⟨bg⟩,⟨kq_⟩,⟨ca⟩⟩
  rw[if_neg y9]at H;have y0:=beq_eq_false_iff_ne.mpr y9;have z1:=bne_iff_ne.mpr y9
  (first|rw[y0]|(simp only[bu,bI];rw[y0])|skip)
  have f0:=a0_ H;clear H;go_upto_if 25 with(fail);go_cut [25] (fun Z0 wc=> ∃ (kq:Nat) (b0:Bool),Z0 = .bool b0∧ab (bf.j0 kq g5 b0 s0_0 j5 j6 g6 g5 j3 (⟨#[]⟩:ByteArray)=some (r1,r2,r3,r4,r5,r6))∧ab (kq≤k)∧ab (wc.heap[g9]? = some (.cells #[.string (⟨#[]⟩:ByteArray),.int .i64 0,.int .i64 0,.string (⟨#[]⟩:ByteArray)] 45 (0,0)))∧ab (wc.heap[j2]? = some (.cells #[.string g6,.int .i64 g5,.int .i64 j3,.string (⟨#[]⟩:ByteArray)] 45 (0,0)))∧ab (ak w0 wc g s0_0 j5 j6)∧ab (aJ w wc g none)∧ab (Below w0.heap.size w0 wc))
  case first=>
   have H:=f0.out;clear f0
   by_cases b4:g5=2
   case neg=>
    rw[if_neg b4]at H;have b1:=beq_eq_false_iff_ne.mpr b4;have J3:=bne_iff_ne.mpr b4
    (first|rw[b1]|(simp only[bu,bI];rw[b1])|skip)
    have H':=a0_ H;clear H;go_wp2;go_meet
    case rel=>exact⟨_,((g5==5)),rs_,H',⟨by first|omega|exact Nat.le_refl _⟩,⟨ir g3.out g0.out⟩,⟨fl g1.out⟩,⟨bg⟩,⟨kq_⟩,⟨ca⟩⟩
   rw[if_pos b4]at H;have b1:=beq_iff_eq.mpr b4;have J3:=bne_eq_false_iff_eq.mpr b4;clear b4
   (first|rw[b1]|(simp only[bu,bI];rw[b1])|skip)
   have H':=a0_ H;clear H;go_wp2;go_meet
   case rel=>exact⟨_,((g5==2)),rs_,H',⟨by first|omega|exact Nat.le_refl _⟩,⟨ir g3.out g0.out⟩,⟨fl g1.out⟩,⟨bg⟩,⟨kq_⟩,⟨ca⟩⟩
  case rest=>
   clear f0
   try clear y9
   try clear y0
   try clear z1
   try clear f6 f7 f8 f9
   try clear T0 T1 T2 T3
   obtain⟨kq,b0,rfl,HA,HJ28,g0,g1,HI0,HK,HB⟩:=hcut
   cases kq with
   | zero=>exact absurd HA.out (by simp[bf.j0])
   | succ kj28=>
    have H:=HA.out;clear HA;simp only[bf.j0]at H
    by_cases T5:b0=true
    case pos=>
     subst T5;rw[if_pos rfl]at H;obtain⟨⟨V6,V7,V8⟩,Z1,H⟩:=ob_ H;have H':=a0_ H;clear H;go_wp2_with (first|((with_reducible refine gt_ 155 rfl ?_);refine gs_ 29 Tryz.func155 #[.pointer (some ⟨g,0,none⟩)] ?_;(with_reducible refine(cT.c g s0_0 j5 j6 V6 V7 V8 w0 _ ?side1 ?side2 Z1.out).mono ?_);(case side1=>exact bg);(case side2=>exact ca);rintro e B1 ⟨rfl,hi,hb,hk⟩;refine⟨_,rfl,?_⟩;replace g0:=a0_ (kk_ g0 hk g4.out);replace g1:=a0_ (kk_ g1 hk g2.out);replace HK:=a0_ (kt_ HK hk (.inl rfl));replace HB:=a0_ (hb);replace HI0:=a0_ (hi);clear hb hk hi;have N9:=g7.out;have X0:=g3.out;have X1:=g2.out;have X2:=NB0_662.out;obtain⟨_,_,_,_,_,_,_,_⟩:=cY g1.out));go_meet
     case rel=>exact⟨_,(V7),(V8),(V6),H',jl_ HJ28,⟨bz_⟩,⟨by(with_reducible repeat(first|refine aI ?_ _|refine az ?_|refine aE ?_ _));refine bE (cs:=#[.string g6,.int .i64 g5,.int .i64 j3,.string (⟨#[]⟩:ByteArray)]) ?_ 3 _ rfl;(with_reducible repeat(first|refine aI ?_ _|refine az ?_|refine aE ?_ _));exact g1.out⟩,⟨bg⟩,⟨kq_⟩,⟨ca⟩⟩
    replace T5:=Bool.eq_false_iff.mpr T5;subst T5;rw[if_neg ff_]at H
    by_cases b5:g5=6
    case pos=>
     rw[if_pos b5]at H;have J4:=beq_iff_eq.mpr b5;have J5:=bne_eq_false_iff_eq.mpr b5;clear b5;obtain⟨⟨f1,V9,G0⟩,Z2,H⟩:=ob_ H;obtain⟨G1,Z3,H⟩:=ob_ H;have H':=a0_ H;clear H;go_wp2_with (first|((with_reducible refine gt_ 111 rfl ?_);refine gs_ 34 Tryz.func111 #[.pointer (some ⟨g,0,none⟩),.int .i64 20] ?_;(with_reducible refine(aM.c g s0_0 j5 j6 20 f1 V9 G0 w0 _ ?side1 ?side2 Z2.out).mono ?_);(case side1=>exact bg);(case side2=>exact ca);rintro e B2 ⟨rfl,hi,hb,hk⟩;refine⟨_,rfl,?_⟩;replace g0:=a0_ (kk_ g0 hk g4.out);replace g1:=a0_ (kk_ g1 hk g2.out);replace HK:=a0_ (kt_ HK hk (.inl rfl));replace HB:=a0_ (hb);replace HI0:=a0_ (hi);clear hb hk hi)|((with_reducible refine gt_ 52 rfl ?_);refine gs_ 35 Tryz.func52 #[.int .i64 f1] ?_;(with_reducible refine(bX.c kj28 f1 G1 _ Z3.out).mono ?_);rintro e B3 ⟨rfl,hb⟩;refine⟨_,rfl,?_⟩;replace g0:=a0_ (bq g0 hb);replace g1:=a0_ (bq g1 hb);replace HI0:=a0_ (ak.below bg hb);replace HK:=a0_ (kt_ HK (aJ.of_below hb g none) (.inl rfl));replace HB:=a0_ (aa ca hb);clear hb;have X3:=g7.out;have X4:=g3.out;have X5:=g2.out;have X6:=NB0_662.out;obtain⟨_,_,_,_,_,_,_,_⟩:=cY g1.out));go_meet
     case rel=>exact⟨_,(V9),(G0),(G1),H',jl_ HJ28,⟨bz_⟩,⟨by(with_reducible repeat(first|refine aI ?_ _|refine az ?_|refine aE ?_ _));refine bE (cs:=#[.string g6,.int .i64 g5,.int .i64 j3,.string (⟨#[]⟩:ByteArray)]) ?_ 3 _ rfl;(with_reducible repeat(first|refine aI ?_ _|refine az ?_|refine aE ?_ _));exact g1.out⟩,⟨bg⟩,⟨kq_⟩,⟨ca⟩⟩
    rw[if_neg b5]at H;have J4:=beq_eq_false_iff_ne.mpr b5;have J5:=bne_iff_ne.mpr b5
    by_cases b6:g5=15
    case neg=>
     rw[if_neg b6]at H;have J6:=beq_eq_false_iff_ne.mpr b6;have J7:=bne_iff_ne.mpr b6;obtain⟨G2,z3⟩:∃ y_:List ByteArray,y_=(([⟨#[104,101,108,108,111]⟩,⟨#[]⟩,⟨#[118,61,49,32,120]⟩]:List ByteArray)):=⟨_,rfl⟩;rw[← z3]at H;have T6:=a0_ z3;clear z3;obtain⟨⟨G3,G4,G5⟩,Z4,H⟩:=ob_ H;have H':=a0_ H;clear H;go_wp2_with (first|((with_reducible refine ax (N:=16) rfl ?_);refine ls_ 16 9 ([⟨#[104,101,108,108,111]⟩,⟨#[]⟩,⟨#[118,61,49,32,120]⟩]:List ByteArray) ?_;intro C3 B4 b7 hb hg_ hnew_;clear hg_ hnew_;(first|rw[← T6.out]at b7|(simp only[Int.reduceToNat]at b7;rw[← T6.out]at b7));have y4:=a0_ (Kd.R_lower b7 (cJ (w:=w) (g:=g) (row:=none) kq_));replace g0:=a0_ (bq g0 hb);replace g1:=a0_ (bq g1 hb);replace HI0:=a0_ (ak.below bg hb);replace HK:=a0_ (kt_ HK (aJ.of_below hb g none) (.inl rfl));replace HB:=a0_ (aa ca hb);clear hb b7;obtain⟨D3,D4,D5⟩:=Kd.R_slice y4.out;subst D5)|((with_reducible refine gt_ 154 rfl ?_);refine gs_ 17 Tryz.func154 #[.pointer (some ⟨g,0,none⟩),.slice D3 G2.length D4] ?_;(with_reducible refine(bR.c g s0_0 j5 j6 _ _ G2 G3 G4 G5 w0 _ ?side1 ?side2 ?side3 ?side4 ?side5 Z4.out).mono ?_);(case side1=>exact bg);(case side2=>exact ca);(case side3=>exact kD_ (Kd.R_reads' y4.out).2.2);(case side4=>exact(Kd.R_reads' y4.out).2.1);(case side5=>exact dW (ak.own_ne HI0.out y4.out (by decide)));rintro e B5 ⟨rfl,hi,hb,hk⟩;refine⟨_,rfl,?_⟩;replace g0:=a0_ (kk_ g0 hk g4.out);replace g1:=a0_ (kk_ g1 hk g2.out);replace y4:=a0_ (Kd.R_mono (Kd.R_keep (ak.apart (show ak w0 _ g s0_0 j5 j6 from bg) (kR_ y4.out) (by decide)) hk (fun _ h=>h.2)) (fun _ h=>h.1));replace HK:=a0_ (kt_ HK hk (.inl rfl));replace HB:=a0_ (hb);replace HI0:=a0_ (hi);clear hb hk hi;have X7:=g7.out;have X8:=g3.out;have X9:=g2.out;have E0:=NB0_662.out;obtain⟨_,_,_,_,_,_,_,_⟩:=cY g1.out));go_meet
     case rel=>exact⟨_,(G4),(G5),(G3),H',jl_ HJ28,⟨bz_⟩,⟨by(with_reducible repeat(first|refine aI ?_ _|refine az ?_|refine aE ?_ _));refine bE (cs:=#[.string g6,.int .i64 g5,.int .i64 j3,.string (⟨#[]⟩:ByteArray)]) ?_ 3 _ rfl;(with_reducible repeat(first|refine aI ?_ _|refine az ?_|refine aE ?_ _));exact g1.out⟩,⟨bg⟩,⟨kq_⟩,⟨ca⟩⟩
    rw[if_pos b6]at H;have J6:=beq_iff_eq.mpr b6;have J7:=bne_eq_false_iff_eq.mpr b6;clear b6;obtain⟨⟨f2,G6,G7⟩,Z5,H⟩:=ob_ H;obtain⟨y7,Z6,H⟩:=ob_ H
    by_cases z7:y7.size+1≤9223372036854775807
    case neg=>
     rw[if_neg z7]at H;exact absurd H (by simp)
    rw[if_pos z7]at H;have E1:=eq_true z7;have E2:=decide_eq_true z7
    try have E3:(9223372036854775807<y7.size+1)=False:=eq_false (Nat.not_lt.2 z7)
    obtain⟨⟨b8,G8,G9⟩,Z7,H⟩:=ob_ H
    by_cases d6:(y7++(⟨#[32]⟩:ByteArray)).size+b8.size≤9223372036854775807
    case neg=>
     rw[if_neg d6]at H;exact absurd H (by simp)
    rw[if_pos d6]at H;have E4:=eq_true d6;have E5:=decide_eq_true d6
    have E6:(9223372036854775807<y7.size+1+b8.size)=False:=eq_false (by have e_:=d6;rw[ByteArray.size_append,show(⟨#[32]⟩:ByteArray).size=1 from rfl]at e_;omega);try have E7:(9223372036854775807<(y7++(⟨#[32]⟩:ByteArray)).size+b8.size)=False:=eq_false (Nat.not_lt.2 d6)
    have H':=a0_ H;clear H;go_wp2_with (first|((with_reducible refine gt_ 111 rfl ?_);refine gs_ 40 Tryz.func111 #[.pointer (some ⟨g,0,none⟩),.int .i64 30] ?_;(with_reducible refine(aM.c g s0_0 j5 j6 30 f2 G6 G7 w0 _ ?side1 ?side2 Z5.out).mono ?_);(case side1=>exact bg);(case side2=>exact ca);rintro e B6 ⟨rfl,hi,hb,hk⟩;refine⟨_,rfl,?_⟩;replace g0:=a0_ (kk_ g0 hk g4.out);replace g1:=a0_ (kk_ g1 hk g2.out);replace HK:=a0_ (kt_ HK hk (.inl rfl));replace HB:=a0_ (hb);replace HI0:=a0_ (hi);clear hb hk hi)|((with_reducible refine gt_ 52 rfl ?_);refine gs_ 41 Tryz.func52 #[.int .i64 f2] ?_;(with_reducible refine(bX.c kj28 f2 y7 _ Z6.out).mono ?_);rintro e B7 ⟨rfl,hb⟩;refine⟨_,rfl,?_⟩;replace g0:=a0_ (bq g0 hb);replace g1:=a0_ (bq g1 hb);replace HI0:=a0_ (ak.below bg hb);replace HK:=a0_ (kt_ HK (aJ.of_below hb g none) (.inl rfl));replace HB:=a0_ (aa ca hb);clear hb)|((with_reducible refine gt_ 155 rfl ?_);refine gs_ 44 Tryz.func155 #[.pointer (some ⟨g,0,none⟩)] ?_;(with_reducible refine(cT.c g s0_0 G6 G7 b8 G8 G9 w0 _ ?side1 ?side2 Z7.out).mono ?_);(case side1=>exact bg);(case side2=>exact ca);rintro e B8 ⟨rfl,hi,hb,hk⟩;refine⟨_,rfl,?_⟩;replace g0:=a0_ (kk_ g0 hk g4.out);replace g1:=a0_ (kk_ g1 hk g2.out);replace HK:=a0_ (kt_ HK hk (.inl rfl));replace HB:=a0_ (hb);replace HI0:=a0_ (hi);clear hb hk hi;have E8:=g7.out;have E9:=g3.out;have O0:=g2.out;have O1:=NB0_662.out;obtain⟨_,_,_,_,_,_,_,_⟩:=cY g1.out));go_meet
    case rel=>exact⟨_,(G8),(G9),((y7++(⟨#[32]⟩:ByteArray))++b8),H',jl_ HJ28,⟨bz_⟩,⟨by(with_reducible repeat(first|refine aI ?_ _|refine az ?_|refine aE ?_ _));refine bE (cs:=#[.string g6,.int .i64 g5,.int .i64 j3,.string (⟨#[]⟩:ByteArray)]) ?_ 3 _ rfl;(with_reducible repeat(first|refine aI ?_ _|refine az ?_|refine aE ?_ _));exact g1.out⟩,⟨bg⟩,⟨kq_⟩,⟨ca⟩⟩
 case rest=>
  clear HC5
  try clear y9
  try clear y0
  try clear z1
  try clear f6 f7 f8 f9
  try clear T0 T1 T2 T3
  obtain⟨kq,j8,j9,j7,HA,HJ4,g0,g1,HI0,HK,HB⟩:=hcut
  cases kq with
  | zero=>exact absurd HA.out (by simp[bf.j1])
  | succ kj4=>
   have H:=HA.out;clear HA;simp only[bf.j1]at H;obtain⟨⟨y8,y1,y2⟩,T7,H⟩:=ob_ H
   by_cases b9:y8=0
   case pos=>
    rw[if_pos b9]at H;have J8:=beq_iff_eq.mpr b9;have J9:=bne_eq_false_iff_eq.mpr b9;clear b9;obtain⟨J0,z4⟩:∃ y_:List Int,y_=(([(-1),0,100000,100001]:List Int)):=⟨_,rfl⟩;rw[← z4]at H;have T8:=a0_ z4;clear z4;obtain⟨⟨f3,D6,D7⟩,Z8,H⟩:=ob_ H;simp only[Option.some.injEq,Prod.mk.injEq]at H;obtain⟨rfl,rfl,rfl,rfl,rfl,rfl⟩:=H;go_wp2_with (first|((with_reducible refine gt_ 111 rfl ?_);refine gs_ 48 Tryz.func111 #[.pointer (some ⟨g,0,none⟩),.int .i64 40] ?_;(with_reducible refine(aM.c g s0_0 j8 j9 40 y8 y1 y2 w0 _ ?side1 ?side2 T7.out).mono ?_);(case side1=>exact bg);(case side2=>exact ca);rintro e B9 ⟨rfl,hi,hb,hk⟩;refine⟨_,rfl,?_⟩;replace g0:=a0_ (kk_ g0 hk g4.out);replace g1:=a0_ (kk_ g1 hk g2.out);replace HK:=a0_ (kt_ HK hk (.inl rfl));replace HB:=a0_ (hb);replace HI0:=a0_ (hi);clear hb hk hi)|((with_reducible refine ax (N:=52) rfl ?_);refine Kd.R_lit (Kd.int .i64) _ 3 ?hg (N:=52) ?hd (xs:=([(-1),0,100000,100001]:List Int)) (inner:=[.int .i64 (-1),.int .i64 0,.int .i64 100000,.int .i64 100001]) (ok:=fun _=>True) (okp:=fun _=>True) ?hr ?hp (fun _ hk=>hk) trivial (Below.refl _ _) (Nat.le_refl _) (by simp) ?_;(case hd=>rfl);(case hg=>rfl);(case hr=>first|(go_simp;done)|(go_simp;rfl));(case hp=>exact(br.one (show Kd.M (Kd.int .i64) _ _ _ (-1) [.int .i64 (-1)]from rfl) (br.one (show Kd.M (Kd.int .i64) _ _ _ 0 [.int .i64 0]from rfl) (br.one (show Kd.M (Kd.int .i64) _ _ _ 100000 [.int .i64 100000]from rfl) (br.one (show Kd.M (Kd.int .i64) _ _ _ 100001 [.int .i64 100001]from rfl) (br.none _ _))))));intro C4 M0 d0 hb hg_ hnew_;clear hg_ hnew_;(first|rw[← T8.out]at d0|(simp only[Int.reduceToNat]at d0;rw[← T8.out]at d0));have y5:=a0_ (Kd.R_lower d0 (cJ (w:=w) (g:=g) (row:=none) kq_));replace g0:=a0_ (bq g0 hb);replace g1:=a0_ (bq g1 hb);replace HI0:=a0_ (ak.below bg hb);replace HK:=a0_ (kt_ HK (aJ.of_below hb g none) (.inl rfl));replace HB:=a0_ (aa ca hb);clear hb d0;obtain⟨D8,D9,Y0⟩:=Kd.R_slice y5.out;subst Y0)|((with_reducible refine gt_ 114 rfl ?_);refine gs_ 53 Tryz.func114 #[.pointer (some ⟨g,0,none⟩),.slice D8 J0.length D9] ?_;(with_reducible refine(bL.c g s0_0 y1 y2 _ _ J0 f3 D6 D7 w0 _ ?side1 ?side2 ?side3 ?side4 ?side5 Z8.out).mono ?_);(case side1=>exact bg);(case side2=>exact ca);(case side3=>exact kD_ (Kd.R_reads' y5.out).2.2);(case side4=>exact(Kd.R_reads' y5.out).2.1);(case side5=>exact dW (ak.own_ne HI0.out y5.out (by decide)));rintro e M1 ⟨rfl,hi,hb,hk⟩;refine⟨_,rfl,?_⟩;replace g0:=a0_ (kk_ g0 hk g4.out);replace g1:=a0_ (kk_ g1 hk g2.out);replace y5:=a0_ (Kd.R_mono (Kd.R_keep (ak.apart (show ak w0 _ g s0_0 y1 y2 from bg) (kR_ y5.out) (by decide)) hk (fun _ h=>h.2)) (fun _ h=>h.1));replace HK:=a0_ (kt_ HK hk (.inl rfl));replace HB:=a0_ (hb);replace HI0:=a0_ (hi);clear hb hk hi;have O2:=g7.out;have O3:=g3.out;have O4:=g2.out;have O5:=NB0_662.out;obtain⟨_,_,_,_,_,_,_,_⟩:=cY g1.out;have O6:=g4.out;have O7:=NB0_646.out;obtain⟨_,_,_,_,_,_,_,_⟩:=cY g0.out))
    refine bodyPost_ret (results_cell_row rfl _ _ g9 45 #[.string g6,.int .i64 g5,.int .i64 f3,.string j7] (0,0) _ rfl (by(with_reducible repeat(first|refine aI ?_ _|refine az ?_|refine aE ?_ _));refine bE (cs:=#[.string g6,.int .i64 g5,.int .i64 f3,.string (⟨#[]⟩:ByteArray)]) ?_ 3 _ rfl;(with_reducible repeat(first|refine aI ?_ _|refine az ?_|refine aE ?_ _));refine bE (cs:=#[.string g6,.int .i64 g5,.int .i64 0,.string (⟨#[]⟩:ByteArray)]) ?_ 2 _ rfl;(with_reducible repeat(first|refine aI ?_ _|refine az ?_|refine aE ?_ _));refine bE (cs:=#[.string g6,.int .i64 0,.int .i64 0,.string (⟨#[]⟩:ByteArray)]) ?_ 1 _ rfl;(with_reducible repeat(first|refine aI ?_ _|refine az ?_|refine aE ?_ _));refine bE (cs:=#[.string (⟨#[]⟩:ByteArray),.int .i64 0,.int .i64 0,.string (⟨#[]⟩:ByteArray)]) ?_ 0 _ rfl;(with_reducible repeat(first|refine aI ?_ _|refine az ?_|refine aE ?_ _));refine dB ?_ g3.out _;(with_reducible repeat(first|refine aI ?_ _|refine az ?_|refine aE ?_ _));exact g0.out) Tryz.underlying45 rfl (by kernel_rfl)) rfl ?_
    exact⟨rr_,bg,ca,kq_⟩
   rw[if_neg b9]at H;have J8:=beq_eq_false_iff_ne.mpr b9;have J9:=bne_iff_ne.mpr b9
   by_cases d3:y8=1
   case pos=>
    rw[if_pos d3]at H;have Q0:=beq_iff_eq.mpr d3;have Q1:=bne_eq_false_iff_eq.mpr d3;clear d3;obtain⟨J1,z5⟩:∃ y_:List ByteArray,y_=(([⟨#[49,46,50,46,51]⟩,⟨#[50,53,54,46,49,46,49,46,49]⟩,⟨#[42]⟩,⟨#[52,50,57,52,57,54,55,50,57,53]⟩,⟨#[52,50,57,52,57,54,55,50,57,54]⟩,⟨#[55,48,48,48,48,32,97,46,98]⟩,⟨#[48,49,46,50,46,51,46,52]⟩,⟨#[1]⟩]:List ByteArray)):=⟨_,rfl⟩;rw[← z5]at H;have T9:=a0_ z5;clear z5;obtain⟨⟨J2,Y1,Y2⟩,Z9,H⟩:=ob_ H;simp only[Option.some.injEq,Prod.mk.injEq]at H;obtain⟨rfl,rfl,rfl,rfl,rfl,rfl⟩:=H;go_wp2_with (first|((with_reducible refine gt_ 111 rfl ?_);refine gs_ 48 Tryz.func111 #[.pointer (some ⟨g,0,none⟩),.int .i64 40] ?_;(with_reducible refine(aM.c g s0_0 j8 j9 40 y8 y1 y2 w0 _ ?side1 ?side2 T7.out).mono ?_);(case side1=>exact bg);(case side2=>exact ca);rintro e M2 ⟨rfl,hi,hb,hk⟩;refine⟨_,rfl,?_⟩;replace g0:=a0_ (kk_ g0 hk g4.out);replace g1:=a0_ (kk_ g1 hk g2.out);replace HK:=a0_ (kt_ HK hk (.inl rfl));replace HB:=a0_ (hb);replace HI0:=a0_ (hi);clear hb hk hi)|((with_reducible refine ax (N:=58) rfl ?_);refine ls_ 58 9 ([⟨#[49,46,50,46,51]⟩,⟨#[50,53,54,46,49,46,49,46,49]⟩,⟨#[42]⟩,⟨#[52,50,57,52,57,54,55,50,57,53]⟩,⟨#[52,50,57,52,57,54,55,50,57,54]⟩,⟨#[55,48,48,48,48,32,97,46,98]⟩,⟨#[48,49,46,50,46,51,46,52]⟩,⟨#[1]⟩]:List ByteArray) ?_;intro C5 M3 d4 hb hg_ hnew_;clear hg_ hnew_;(first|rw[← T9.out]at d4|(simp only[Int.reduceToNat]at d4;rw[← T9.out]at d4));have y6:=a0_ (Kd.R_lower d4 (cJ (w:=w) (g:=g) (row:=none) kq_));replace g0:=a0_ (bq g0 hb);replace g1:=a0_ (bq g1 hb);replace HI0:=a0_ (ak.below bg hb);replace HK:=a0_ (kt_ HK (aJ.of_below hb g none) (.inl rfl));replace HB:=a0_ (aa ca hb);clear hb d4;obtain⟨Y3,Y4,Y5⟩:=Kd.R_slice y6.out;subst Y5)|((with_reducible refine gt_ 154 rfl ?_);refine gs_ 59 Tryz.func154 #[.pointer (some ⟨g,0,none⟩),.slice Y3 J1.length Y4] ?_;(with_reducible refine(bR.c g s0_0 y1 y2 _ _ J1 J2 Y1 Y2 w0 _ ?side1 ?side2 ?side3 ?side4 ?side5 Z9.out).mono ?_);(case side1=>exact bg);(case side2=>exact ca);(case side3=>exact kD_ (Kd.R_reads' y6.out).2.2);(case side4=>exact(Kd.R_reads' y6.out).2.1);(case side5=>exact dW (ak.own_ne HI0.out y6.out (by decide)));rintro e M4 ⟨rfl,hi,hb,hk⟩;refine⟨_,rfl,?_⟩;replace g0:=a0_ (kk_ g0 hk g4.out);replace g1:=a0_ (kk_ g1 hk g2.out);replace y6:=a0_ (Kd.R_mono (Kd.R_keep (ak.apart (show ak w0 _ g s0_0 y1 y2 from bg) (kR_ y6.out) (by decide)) hk (fun _ h=>h.2)) (fun _ h=>h.1));replace HK:=a0_ (kt_ HK hk (.inl rfl));replace HB:=a0_ (hb);replace HI0:=a0_ (hi);clear hb hk hi;have O8:=g7.out;have O9:=g3.out;have W0:=g2.out;have W1:=NB0_662.out;obtain⟨_,_,_,_,_,_,_,_⟩:=cY g1.out;have W2:=g4.out;have W3:=NB0_646.out;obtain⟨_,_,_,_,_,_,_,_⟩:=cY g0.out))
    refine bodyPost_ret (results_cell_row rfl _ _ g9 45 #[.string g6,.int .i64 g5,.int .i64 j3,.string J2] (0,0) _ rfl (by(with_reducible repeat(first|refine aI ?_ _|refine az ?_|refine aE ?_ _));refine bE (cs:=#[.string g6,.int .i64 g5,.int .i64 j3,.string (⟨#[]⟩:ByteArray)]) ?_ 3 _ rfl;(with_reducible repeat(first|refine aI ?_ _|refine az ?_|refine aE ?_ _));refine bE (cs:=#[.string g6,.int .i64 g5,.int .i64 0,.string (⟨#[]⟩:ByteArray)]) ?_ 2 _ rfl;(with_reducible repeat(first|refine aI ?_ _|refine az ?_|refine aE ?_ _));refine bE (cs:=#[.string g6,.int .i64 0,.int .i64 0,.string (⟨#[]⟩:ByteArray)]) ?_ 1 _ rfl;(with_reducible repeat(first|refine aI ?_ _|refine az ?_|refine aE ?_ _));refine bE (cs:=#[.string (⟨#[]⟩:ByteArray),.int .i64 0,.int .i64 0,.string (⟨#[]⟩:ByteArray)]) ?_ 0 _ rfl;(with_reducible repeat(first|refine aI ?_ _|refine az ?_|refine aE ?_ _));refine dB ?_ g3.out _;(with_reducible repeat(first|refine aI ?_ _|refine az ?_|refine aE ?_ _));exact g0.out) Tryz.underlying45 rfl (by kernel_rfl)) rfl ?_
    exact⟨rr_,bg,ca,kq_⟩
   rw[if_neg d3]at H;have Q0:=beq_eq_false_iff_ne.mpr d3;have Q1:=bne_iff_ne.mpr d3
   by_cases d5:y8=2
   case neg=>
    rw[if_neg d5]at H;have Q2:=beq_eq_false_iff_ne.mpr d5;have Q3:=bne_iff_ne.mpr d5;simp only[Option.some.injEq,Prod.mk.injEq]at H;obtain⟨rfl,rfl,rfl,rfl,rfl,rfl⟩:=H;go_wp2_with (first|((with_reducible refine gt_ 111 rfl ?_);refine gs_ 48 Tryz.func111 #[.pointer (some ⟨g,0,none⟩),.int .i64 40] ?_;(with_reducible refine(aM.c g s0_0 j8 j9 40 y8 y1 y2 w0 _ ?side1 ?side2 T7.out).mono ?_);(case side1=>exact bg);(case side2=>exact ca);rintro e M5 ⟨rfl,hi,hb,hk⟩;refine⟨_,rfl,?_⟩;replace g0:=a0_ (kk_ g0 hk g4.out);replace g1:=a0_ (kk_ g1 hk g2.out);replace HK:=a0_ (kt_ HK hk (.inl rfl));replace HB:=a0_ (hb);replace HI0:=a0_ (hi);clear hb hk hi;have F0:=g7.out;have F1:=g3.out;have F2:=g2.out;have F3:=NB0_662.out;obtain⟨_,_,_,_,_,_,_,_⟩:=cY g1.out;have F4:=g4.out;have F5:=NB0_646.out;obtain⟨_,_,_,_,_,_,_,_⟩:=cY g0.out))
    refine bodyPost_ret (results_cell_row rfl _ _ g9 45 #[.string g6,.int .i64 g5,.int .i64 j3,.string j7] (0,0) _ rfl (fl g0.out) Tryz.underlying45 rfl (by kernel_rfl)) rfl ?_
    exact⟨rr_,bg,ca,kq_⟩
   rw[if_pos d5]at H;have Q2:=beq_iff_eq.mpr d5;have Q3:=bne_eq_false_iff_eq.mpr d5;clear d5;obtain⟨⟨z6,Y6,Y7⟩,F6,H⟩:=ob_ H;simp only[Option.some.injEq,Prod.mk.injEq]at H;obtain⟨rfl,rfl,rfl,rfl,rfl,rfl⟩:=H;go_wp2_with (first|((with_reducible refine gt_ 111 rfl ?_);refine gs_ 48 Tryz.func111 #[.pointer (some ⟨g,0,none⟩),.int .i64 40] ?_;(with_reducible refine(aM.c g s0_0 j8 j9 40 y8 y1 y2 w0 _ ?side1 ?side2 T7.out).mono ?_);(case side1=>exact bg);(case side2=>exact ca);rintro e M6 ⟨rfl,hi,hb,hk⟩;refine⟨_,rfl,?_⟩;replace g0:=a0_ (kk_ g0 hk g4.out);replace g1:=a0_ (kk_ g1 hk g2.out);replace HK:=a0_ (kt_ HK hk (.inl rfl));replace HB:=a0_ (hb);replace HI0:=a0_ (hi);clear hb hk hi)|((with_reducible refine gt_ 111 rfl ?_);refine gs_ 64 Tryz.func111 #[.pointer (some ⟨g,0,none⟩),.int .i64 20] ?_;(with_reducible refine(aM.c g s0_0 y1 y2 20 z6 Y6 Y7 w0 _ ?side1 ?side2 F6.out).mono ?_);(case side1=>exact bg);(case side2=>exact ca);rintro e M7 ⟨rfl,hi,hb,hk⟩;refine⟨_,rfl,?_⟩;replace g0:=a0_ (kk_ g0 hk g4.out);replace g1:=a0_ (kk_ g1 hk g2.out);replace HK:=a0_ (kt_ HK hk (.inl rfl));replace HB:=a0_ (hb);replace HI0:=a0_ (hi);clear hb hk hi;have W4:=g7.out;have W5:=g3.out;have W6:=g2.out;have W7:=NB0_662.out;obtain⟨_,_,_,_,_,_,_,_⟩:=cY g1.out;have W8:=g4.out;have W9:=NB0_646.out;obtain⟨_,_,_,_,_,_,_,_⟩:=cY g0.out))
   refine bodyPost_ret (results_cell_row rfl _ _ g9 45 #[.string g6,.int .i64 z6,.int .i64 j3,.string j7] (0,0) _ rfl (by(with_reducible repeat(first|refine aI ?_ _|refine az ?_|refine aE ?_ _));refine bE (cs:=#[.string g6,.int .i64 z6,.int .i64 j3,.string (⟨#[]⟩:ByteArray)]) ?_ 3 _ rfl;(with_reducible repeat(first|refine aI ?_ _|refine az ?_|refine aE ?_ _));refine bE (cs:=#[.string g6,.int .i64 z6,.int .i64 0,.string (⟨#[]⟩:ByteArray)]) ?_ 2 _ rfl;(with_reducible repeat(first|refine aI ?_ _|refine az ?_|refine aE ?_ _));refine bE (cs:=#[.string g6,.int .i64 0,.int .i64 0,.string (⟨#[]⟩:ByteArray)]) ?_ 1 _ rfl;(with_reducible repeat(first|refine aI ?_ _|refine az ?_|refine aE ?_ _));refine bE (cs:=#[.string (⟨#[]⟩:ByteArray),.int .i64 0,.int .i64 0,.string (⟨#[]⟩:ByteArray)]) ?_ 0 _ rfl;(with_reducible repeat(first|refine aI ?_ _|refine az ?_|refine aE ?_ _));refine dB ?_ g3.out _;(with_reducible repeat(first|refine aI ?_ _|refine az ?_|refine aE ?_ _));exact g0.out) Tryz.underlying45 rfl (by kernel_rfl)) rfl ?_
   exact⟨rr_,bg,ca,kq_⟩
end Go.Proofs.YtiegkjimpclmaaaGreatDoor.P
namespace Go.Proofs.YtiegkjimpclmaaaGreatDoor.P
attribute [local go_sem] cG cD c_ cZ ci ch cE cH
attribute [local go_sem] kf
mutual
def bl.l0: Nat→List ByteArray→List ByteArray→Int→Option (Int)
 | 0,_,_,_=>none
 | k+1,x5,x7,x9=>if x9≤(x5.length:Int)then(bl.j1 k x5 x7 x9 (decide (x9≤(x7.length:Int))))else(bl.j1 k x5 x7 x9 false)
def bl.j1: Nat→List ByteArray→List ByteArray→Int→Bool→Option (Int)
 | 0,_,_,_,_=>none
 | k+1,x5,x7,x9,g0=>if g0=true then(if 0≤(wrap64 ((x5.length:Int)-x9))then(if(wrap64 ((x5.length:Int)-x9))<(x5.length:Int)then(if 0≤(wrap64 ((x7.length:Int)-x9))then(if(wrap64 ((x7.length:Int)-x9))<(x7.length:Int)then(if(Op.bytesLess ((bn ByteArray.empty x5 (wrap64 ((x5.length:Int)-x9))).toList) ((bn ByteArray.empty x7 (wrap64 ((x7.length:Int)-x9))).toList))=true then(some (-1))else(if(Op.bytesLess ((bn ByteArray.empty x7 (wrap64 ((x7.length:Int)-x9))).toList) ((bn ByteArray.empty x5 (wrap64 ((x5.length:Int)-x9))).toList))=true then(some 1)else(bl.l0 k x5 x7 (wrap64 (x9+1)))))else(none))else(none))else(none))else(none))else(if(x5.length:Int)<(x7.length:Int)then(some (-1))else(if(x5.length:Int)>(x7.length:Int)then(some 1)else(some 0)))
end
def bl.f(k:Nat)(a0:ByteArray)(a1:ByteArray): Option (Int):=(aw.f k a0).bind fun g0=>((aw.f k a1).bind fun g1=>(bl.l0 k g0.1 g1.1 1))
theorem bl.c(k:Nat)(a0:ByteArray)(a1:ByteArray)(r:Int)(w:World)(h:bl.f k a0 a1=some r):
 Calls Tryz.prog 128 #[.string a0,.string a1] w fun e w'=>e = .returned (.int .i64 r)∧Below w.heap.size w w':=by
 have HB:=a0_ (Below.refl w.heap.size w);have H:=h;clear h;unfold bl.f at H;obtain⟨⟨g0,b7⟩,A3,H⟩:=ob_ H;obtain⟨⟨g1,b8⟩,A4,H⟩:=ob_ H;have H':=a0_ H;clear H;go_enter Tryz.func128,Tryz.ntmps128;go_wp2_with (first|((with_reducible refine gt_ 171 rfl ?_);refine gs_ 14 Tryz.func171 #[.string a0] ?_;(with_reducible refine(aw.c k a0 g0 b7 _ A3.out).mono ?_);rintro e w5 ⟨y1,rfl,ho0,hb⟩;refine⟨_,rfl,?_⟩;have g8:=a0_ (Kd.R_lower ho0 (aj ay));replace HB:=a0_ (aa ay hb);clear hb;(try clear ho0))|((with_reducible refine gt_ 171 rfl ?_);refine gs_ 19 Tryz.func171 #[.string a1] ?_;(with_reducible refine(aw.c k a1 g1 b8 _ A4.out).mono ?_);rintro e w6 ⟨y2,rfl,ho0,hb⟩;refine⟨_,rfl,?_⟩;have b0:=a0_ (Kd.R_lower (Kd.R_new' ho0 (Kd.R_lt (kR_ g8.out))) (aj ay));replace g8:=a0_ (Kd.R_elder' (kR_ g8.out) (Kd.R_base ho0) hb);replace HB:=a0_ (aa ay hb);clear hb;(try clear ho0)));go_loopg [9] k (fun kq v9 w'=> ∃ (x9_1:Int),v9 = .int .i64 x9_1∧ab (bl.l0 kq g0 g1 x9_1=some r)∧ab (kq≤k)∧ab (Kd.R Kd.string 9 w' w.heap.size (fun k_=>some k_≠(y2:Value).ownBlock) y1 g0)∧ab (Kd.R Kd.string 9 w' w.heap.size (fun k_=>some k_≠(y1:Value).ownBlock) y2 g1)∧ab (Below w.heap.size w w'))
 case atStart=>exact⟨(1),rs_,H',⟨Nat.le_refl _⟩,⟨kR_ (Kd.R_mono g8.out (fun _ hk=>hk.2))⟩,⟨kR_ (Kd.R_mono b0.out (fun _ hk=>hk.2))⟩,⟨ay⟩⟩
 case round=>
  clear H';obtain⟨x9_1,rfl,HA,HK1,HO_5,HO_7,HB⟩:=hrel
  cases gk with
  | zero=>exact absurd HA.out (by simp[bl.l0])
  | succ k1=>
   have H:=HA.out;clear HA;simp only[bl.l0]at H;have HC7:=a0_ H;clear H;go_upto_region 4 with(fail);go_cut [31] (fun z5 wc=> ∃ (kq:Nat) (g9:Bool),z5 = .bool g9∧ab (bl.j1 kq g0 g1 x9_1 g9=some r)∧ab (kq≤k1)∧ab (Kd.R Kd.string 9 wc w.heap.size (fun k_=>some k_≠(y2:Value).ownBlock) y1 g0)∧ab (Kd.R Kd.string 9 wc w.heap.size (fun k_=>some k_≠(y1:Value).ownBlock) y2 g1)∧ab (Below w.heap.size w wc))
   case first=>
    have H:=HC7.out;clear HC7
    by_cases c8:x9_1≤(g0.length:Int)
    case neg=>
     rw[if_neg c8]at H;have c8b0:=decide_eq_false c8;clear c8
     (first|rw[c8b0]|(simp only[bu,bI];rw[c8b0])|skip)
     have H':=a0_ H;clear H;obtain⟨f2,f3,b9⟩:=Kd.R_slice HO_5.out;subst b9;go_wp2;go_meet
     case rel=>exact⟨_,(false),rs_,H',jl_ HK1,⟨kR_ HO_5.out⟩,⟨kR_ HO_7.out⟩,⟨ay⟩⟩
    rw[if_pos c8]at H;have c8b0:=decide_eq_true c8;clear c8
    (first|rw[c8b0]|(simp only[bu,bI];rw[c8b0])|skip)
    have H':=a0_ H;clear H;obtain⟨Ao9,co9,eo9⟩:=Kd.R_slice HO_5.out;subst eo9;obtain⟨f4,f5,d0⟩:=Kd.R_slice HO_7.out;subst d0;go_wp2;go_meet
    case rel=>exact⟨_,(decide (x9_1≤(g1.length:Int))),rs_,H',jl_ HK1,⟨kR_ HO_5.out⟩,⟨kR_ HO_7.out⟩,⟨ay⟩⟩
   case rest=>
    clear HC7
    try clear c1
    try clear p2
    try clear p2
    obtain⟨kq,g9,rfl,HA,HJ6,HO_5,HO_7,HB⟩:=hcut
    cases kq with
    | zero=>exact absurd HA.out (by simp[bl.j1])
    | succ kj6=>
     have H:=HA.out;clear HA;simp only[bl.j1]at H
     by_cases y3:g9=true
     case neg=>
      replace y3:=Bool.eq_false_iff.mpr y3;subst y3;rw[if_neg ff_]at H
      by_cases g6:(g0.length:Int)<(g1.length:Int)
      case pos=>
       rw[if_pos g6]at H;have b1:=decide_eq_true g6;have b2:decide (g0.length<g1.length)=true:=decide_eq_true (Int.ofNat_lt.mp g6);clear g6;obtain rfl:=Option.some.inj H;obtain⟨f6,f7,d3⟩:=Kd.R_slice HO_5.out;subst d3;obtain⟨f8,f9,d4⟩:=Kd.R_slice HO_7.out;subst d4;go_wp2;go_ret;exact⟨rr_,ay⟩
      rw[if_neg g6]at H;have b1:=decide_eq_false g6;have b2:decide (g0.length<g1.length)=false:=decide_eq_false (fun h=>g6 (Int.ofNat_lt.mpr h));clear g6
      by_cases g7:(g0.length:Int)>(g1.length:Int)
      case neg=>
       rw[if_neg g7]at H;have b3:=decide_eq_false g7;have b4:decide (g1.length<g0.length)=false:=decide_eq_false (fun h=>g7 (Int.ofNat_lt.mpr h));clear g7;obtain rfl:=Option.some.inj H;obtain⟨T0,T1,d5⟩:=Kd.R_slice HO_5.out;subst d5;obtain⟨T2,T3,d6⟩:=Kd.R_slice HO_7.out;subst d6;go_wp2;go_ret;exact⟨rr_,ay⟩
      rw[if_pos g7]at H;have b3:=decide_eq_true g7;have b4:decide (g1.length<g0.length)=true:=decide_eq_true (Int.ofNat_lt.mp g7);clear g7;obtain rfl:=Option.some.inj H;obtain⟨T4,T5,d7⟩:=Kd.R_slice HO_5.out;subst d7;obtain⟨T6,T7,d8⟩:=Kd.R_slice HO_7.out;subst d8;go_wp2;go_ret;exact⟨rr_,ay⟩
     subst y3;rw[if_pos rfl]at H;obtain⟨g2,g4⟩:∃ j_:Int,(wrap64 ((g0.length:Int)-x9_1))=j_:=⟨_,rfl⟩
     (first|rw[g4]at H|simp only[g4]at H)
     have z6:(IntKind.i64.wrap ((g0.length:Int)-x9_1))=g2:=(bu _).trans g4
     by_cases y4:0≤(g2)
     case neg=>
      rw[if_neg y4]at H;exact absurd H (by simp)
     rw[if_pos y4]at H;have z8:=decide_eq_true y4;clear y4
     by_cases y5:(g2)<(g0.length:Int)
     case neg=>
      rw[if_neg y5]at H;exact absurd H (by simp)
     rw[if_pos y5]at H;have z9:=decide_eq_true y5;clear y5;obtain⟨g3,g5⟩:∃ j_:Int,(wrap64 ((g1.length:Int)-x9_1))=j_:=⟨_,rfl⟩
     (first|rw[g5]at H|simp only[g5]at H)
     have z7:(IntKind.i64.wrap ((g1.length:Int)-x9_1))=g3:=(bu _).trans g5
     by_cases y6:0≤(g3)
     case neg=>
      rw[if_neg y6]at H;exact absurd H (by simp)
     rw[if_pos y6]at H;have f0:=decide_eq_true y6;clear y6
     by_cases y7:(g3)<(g1.length:Int)
     case neg=>
      rw[if_neg y7]at H;exact absurd H (by simp)
     rw[if_pos y7]at H;have f1:=decide_eq_true y7;clear y7
     by_cases j7:(Op.bytesLess ((bn ByteArray.empty g0 (g2)).toList) ((bn ByteArray.empty g1 (g3)).toList))=true
     case pos=>
      rw[if_pos j7]at H;have b5:(Op.bytesLess ((bn ByteArray.empty g0 (g2)).toList) ((bn ByteArray.empty g1 (g3)).toList))=true:=j7;clear j7;obtain rfl:=Option.some.inj H;obtain⟨T8,T9,d9⟩:=Kd.R_slice HO_5.out;subst d9;have j0:=t0_ ((g2));have j2:=tl_ ((g2)) (g0.length);obtain⟨y8,j3,j8⟩:=Kd.at_string (Kd.R_reads' HO_5.out).2.2 (g2) (of_eq_true j0) (of_eq_true j2);cases j3;obtain⟨V0,V1,z0⟩:=Kd.R_slice HO_7.out;subst z0;have j4:=t0_ ((g3));have j5:=tl_ ((g3)) (g1.length);obtain⟨y9,j6,j9⟩:=Kd.at_string (Kd.R_reads' HO_7.out).2.2 (g3) (of_eq_true j4) (of_eq_true j5);cases j6;go_wp2;go_ret;exact⟨by first|rfl|(simp[bY,bZ]<;>rfl)|(simp only[← g4,← g5];first|rfl|(simp[bY,bZ]<;>rfl))|(simp[*,bY,bZ]<;>rfl),ay⟩
     rw[if_neg j7]at H
     have b5:(Op.bytesLess ((bn ByteArray.empty g0 (g2)).toList) ((bn ByteArray.empty g1 (g3)).toList))=false:=by simpa using j7
     clear j7
     by_cases y0:(Op.bytesLess ((bn ByteArray.empty g1 (g3)).toList) ((bn ByteArray.empty g0 (g2)).toList))=true
     case pos=>
      rw[if_pos y0]at H;have b6:(Op.bytesLess ((bn ByteArray.empty g1 (g3)).toList) ((bn ByteArray.empty g0 (g2)).toList))=true:=y0;clear y0;obtain rfl:=Option.some.inj H;obtain⟨V2,V3,z1⟩:=Kd.R_slice HO_5.out;subst z1;have j0:=t0_ ((g2));have j2:=tl_ ((g2)) (g0.length);obtain⟨y8,j3,j8⟩:=Kd.at_string (Kd.R_reads' HO_5.out).2.2 (g2) (of_eq_true j0) (of_eq_true j2);cases j3;obtain⟨V4,V5,z2⟩:=Kd.R_slice HO_7.out;subst z2;have j4:=t0_ ((g3));have j5:=tl_ ((g3)) (g1.length);obtain⟨y9,j6,j9⟩:=Kd.at_string (Kd.R_reads' HO_7.out).2.2 (g3) (of_eq_true j4) (of_eq_true j5);cases j6;go_wp2;go_ret;exact⟨by first|rfl|(simp[bY,bZ]<;>rfl)|(simp only[← g4,← g5];first|rfl|(simp[bY,bZ]<;>rfl))|(simp[*,bY,bZ]<;>rfl),ay⟩
     rw[if_neg y0]at H
     have b6:(Op.bytesLess ((bn ByteArray.empty g1 (g3)).toList) ((bn ByteArray.empty g0 (g2)).toList))=false:=by simpa using y0
     clear y0;have H':=a0_ H;clear H;obtain⟨V6,V7,z3⟩:=Kd.R_slice HO_5.out;subst z3;have j0:=t0_ ((g2));have j2:=tl_ ((g2)) (g0.length);obtain⟨y8,j3,j8⟩:=Kd.at_string (Kd.R_reads' HO_5.out).2.2 (g2) (of_eq_true j0) (of_eq_true j2);cases j3;obtain⟨V8,V9,z4⟩:=Kd.R_slice HO_7.out;subst z4;have j4:=t0_ ((g3));have j5:=tl_ ((g3)) (g1.length);obtain⟨y9,j6,j9⟩:=Kd.at_string (Kd.R_reads' HO_7.out).2.2 (g3) (of_eq_true j4) (of_eq_true j5);cases j6;go_wp2;go_roundg kj6
     case measure=>have:=HK1.out;have:=HJ6.out;omega
     case rel=>exact⟨(wrap64 (x9_1+1)),rs_,H',jm_ HK1 HJ6,⟨kR_ HO_5.out⟩,⟨kR_ HO_7.out⟩,⟨ay⟩⟩
end Go.Proofs.YtiegkjimpclmaaaGreatDoor.P
namespace Go.Proofs.YtiegkjimpclmaaaGreatDoor.P
theorem eZ(n a b:Int): cx.f n a b=some (decide (a≤n∧n≤b)):=by
 unfold cx.f
 by_cases h:n≥a
 ·rw[if_pos h];congr 1;rw[decide_eq_decide];omega
 ·rw[if_neg h];congr 1;rw[eq_comm,decide_eq_false_iff_not];omega
theorem me(b:UInt8): (([97,98,99,100,101,102,103,104,105,106,107,108,109,110,111,112,113,114,115,116,117,118,119,120,121,122,48,49,50,51,52,53,54,55,56,57,45,95]:List UInt8).contains b)=eH b:=by
 have h:∀ n:Fin 256,(([97,98,99,100,101,102,103,104,105,106,107,108,109,110,111,112,113,114,115,116,117,118,119,120,121,122,48,49,50,51,52,53,54,55,56,57,45,95]:List UInt8).contains (UInt8.ofFin n))=eH (UInt8.ofFin n):=by decide +kernel
 exact h b.toFin
theorem jQ(s:ByteArray): dU.f s=some (bH s.data.toList):=by
 unfold dU.f bH;rw[Lib.toList_data,eZ]
 by_cases h0:s.data.toList=[42]
 ·rw[if_pos h0,h0];rfl
 · rw [if_neg h0, show (s.data.toList == [42]) = false from beq_eq_false_iff_ne.mpr h0, Bool.false_or]
   simp only[Option.bind_some]
   have hl:decide ((1:Int)≤(s.size:Int)∧(s.size:Int)≤20)=decide (1≤s.data.toList.length∧s.data.toList.length≤20):=by
    rw[decide_eq_decide,aU];omega
   rw[hl]
   by_cases h1:1≤s.data.toList.length∧s.data.toList.length≤20
   · rw [decide_eq_true h1, if_pos rfl, Bool.true_and]
     unfold eM.f;rw[if_pos (by rw[aU];omega),if_pos (by decide),if_pos (by decide)];simp only[Option.bind_some]
     congr 1
     rw[Lib.toList_data,cn];have ht:=ot s.data.toList [97,98,99,100,101,102,103,104,105,106,107,108,109,110,111,112,113,114,115,116,117,118,119,120,121,122,48,49,50,51,52,53,54,55,56,57,45,95]
     have ha:s.data.toList.all (([97,98,99,100,101,102,103,104,105,106,107,108,109,110,111,112,113,114,115,116,117,118,119,120,121,122,48,49,50,51,52,53,54,55,56,57,45,95]:List UInt8).contains ·)=s.data.toList.all eH:=by
      congr 1
      funext b
      exact me b
     rw[ha]at ht;show(Lib.trimS s.data.toList [97,98,99,100,101,102,103,104,105,106,107,108,109,110,111,112,113,114,115,116,117,118,119,120,121,122,48,49,50,51,52,53,54,55,56,57,45,95] == [])=_
     cases hb:s.data.toList.all eH with
     | true=>rw[ht.2 hb];rfl
     | false=>
      rw[beq_eq_false_iff_ne];intro h;rw[ht.1 h]at hb;cases hb
   · rw [decide_eq_false h1]
     rfl
theorem fU(s:ByteArray)(h:s.size<4294967281): df.f s=some ((bG s.data.toList).map mkB):=by
 unfold df.f bG cM.f;rw[Lib.toList_data]
 by_cases h0:s.data.toList=[]
 ·rw[if_pos h0,if_pos h0];rfl
 ·rw[if_neg h0,if_neg h0,if_pos (show(⟨#[46]⟩:ByteArray).size=1 from rfl),if_pos h];rfl
theorem lC(x:ByteArray)(W:World): Calls Tryz.prog 146 #[.string x] W fun e W'=>e = .returned (.bool (!bH x.data.toList))∧Below W.heap.size W W':=
 eC.c x _ W (by unfold eC.f;rw[jQ];rfl)
def cg.f(s:ByteArray): Option Bool:=some (cO s.data.toList)
set_option maxHeartbeats 4000000 in
theorem cg.c(a0:ByteArray)(r:Bool)(w:World)(h:cg.f a0=some r):
 Calls Tryz.prog 83 #[.string a0] w fun e w'=>e = .returned (.bool r)∧Below w.heap.size w w':=by
 have HG:ab (cO a0.data.toList=r):=⟨Option.some.inj h⟩;clear h
 by_cases h1:60<a0.size
 · have hg:cO a0.data.toList=false:=by
    unfold cO;rw[decide_eq_false (by rw[← aU];omega)];rfl
   obtain rfl:=hg.symm.trans HG.out;have h2:decide (60<a0.size)=true:=decide_eq_true h1;have h3:decide ((60:Int)<(a0.size:Int))=true:=decide_eq_true (by omega);clear HG hg h1;go_enter Tryz.func83,Tryz.ntmps83;go_wp2;go_ret;exact⟨rfl,Below.refl _ _⟩
 · have h2 : decide (60 < a0.size) = false := decide_eq_false h1
   have h3:decide ((60:Int)<(a0.size:Int))=false:=decide_eq_false (by omega);have cl:=df.c a0 _ w (fU a0 (by omega));have eg:∀ args w,(callFunc 146 args).run Tryz.prog w = .ok (.enter 146 args) w:=enters_of Tryz.func146 (by kernel_rfl) rfl
   have cc:=fun A c W hr=>iM A c ((bG a0.data.toList).map mkB) 146 #[] (fun x=> !bH x.data.toList) W hr eg (fun x _ W' _=>lC x W')
   have hany:((bG a0.data.toList).map mkB).any (fun x=> !bH x.data.toList) = !(bG a0.data.toList).all bH:=by
    rw[List.any_map,List.not_all_eq_any_not];simp[Function.comp_def,cn]
   have hlen:((bG a0.data.toList).map mkB).length=(bG a0.data.toList).length:=List.length_map ..
   have hgd:cO a0.data.toList=(decide ((bG a0.data.toList).length≤8)&&(bG a0.data.toList).all bH):=by
    unfold cO;rw[decide_eq_true (by rw[← aU];omega),Bool.true_and]
   rw[hany]at cc;rw[hgd]at HG;generalize (bG a0.data.toList).map mkB=ls at cl cc hlen;generalize (bG a0.data.toList).length=n at hlen HG;generalize (bG a0.data.toList).all bH=b at cc HG;clear h1 hany hgd
   by_cases h8:ls.length≤8
   · have h8a : decide (ls.length ≤ 8) = true := decide_eq_true h8
     have h8b:decide ((ls.length:Int)≤8)=true:=decide_eq_true (by omega)
     have hr:b=r:=by
      have:=HG.out
      rwa [decide_eq_true (by omega),Bool.true_and]at this
     subst hr;clear HG hlen h8;go_enter Tryz.func83,Tryz.ntmps83;go_wp2_with (first|(go_at_call 144;refine cl.mono ?_;rintro e w1 ⟨v,rfl,hR,hb⟩;obtain⟨A,c,rfl⟩:=Kd.R_slice hR;have hC:=(Kd.R_reads' hR).2.2)|(go_at_call 145;refine(cc A c _ hC).mono ?_;rintro e w2 ⟨rfl,hb2⟩));go_ret;exact⟨by simp,bj hb hb.size hb2⟩
   · have h8a : decide (ls.length ≤ 8) = false := decide_eq_false h8
     have h8b:decide ((ls.length:Int)≤8)=false:=decide_eq_false (by omega)
     have hr:false=r:=by
      have:=HG.out
      rwa [decide_eq_false (by omega),Bool.false_and]at this
     subst hr;clear HG hlen h8;go_enter Tryz.func83,Tryz.ntmps83;go_wp2_with (first|(go_at_call 144;refine cl.mono ?_;rintro e w1 ⟨v,rfl,hR,hb⟩;obtain⟨A,c,rfl⟩:=Kd.R_slice hR;have hC:=(Kd.R_reads' hR).2.2));go_ret;exact⟨rfl,hb⟩
end Go.Proofs.YtiegkjimpclmaaaGreatDoor.P
