/- FnCutTo: part 7 of 17 of my texts for this claim, joined; the theorem stands in the last. Conditions: none beyond the statement's. -/
import Derived.Test.YtiegkjimpclmaaaGreatDoorMFnCutTox5
open Go.RowKit Go.Proofs.YtiegkjimpclmaaaGreatDoorW.PrintWords Go.Proofs.YtiegkjimpclmaaaGreatDoorW.PrintLast Go.Proofs.YtiegkjimpclmaaaGreatDoorW.PrintMore
set_option linter.unusedVariables false
set_option linter.unusedSimpArgs false
set_option maxHeartbeats 8000000
set_option maxRecDepth 100000
namespace Go.Proofs.YtiegkjimpclmaaaGreatDoor.Pure
open Go.Proofs.YtiegkjimpclmaaaGreatDoor.P
theorem fS{l:List Int}(hl:fg l){at_ sd:Int}{n:Nat}(hc:Cur at_ n)(hn:n<4611686018427387000)(zs:List ByteArray)(hz:0<zs.length):
 ∃ x at2 sd2,bR.f l at_ sd zs=some (x,at2,sd2)∧x∈zs∧Cur at2 (n+2):=by
 unfold bR.f;obtain⟨i,at2,sd2,e,hi,hc2⟩:=dY hl hc (by omega) (sd:=sd) (zs.length:Int);rw[e];simp only[Option.bind_some]
 have hlt:i<(zs.length:Int):=by omega
 rw[if_pos hi.1,if_pos hlt];refine⟨_,_,_,rfl,?_,hc2⟩
 have h2:i.toNat<zs.length:=by omega
 rw[bn,List.getD_eq_getElem?_getD,List.getElem?_eq_getElem h2];exact List.getElem_mem h2
theorem fW{zs:List ByteArray}{n:Nat}(h:zs.all (fun x=>decide (x.size≤n))=true){x:ByteArray}(hx:x∈zs): x.size≤n:=by
 have:=List.all_eq_true.1 h x hx
 simpa using this
theorem ln{l:List Int}(hl:fg l): ∀ (m:Nat) (at_ sd:Int) (n:Nat) (acc:ByteArray),Cur at_ n→n+2*m<4611686018427387000→acc.size+4*m≤1000→m≤10 →
 ∃ s at2 sd2,bb.l0 (m+1) acc (m:Int) l at_ sd=some (s,at2,sd2)∧s.size≤acc.size+4*m∧Cur at2 (n+2*m)
 | 0,at_,sd,n,acc,hc,hn,ha,hm=>⟨acc,at_,sd,by unfold bb.l0;rw[if_neg (by omega)],by omega,by simpa using hc⟩
 | m+1,at_,sd,n,acc,hc,hn,ha,hm=>by
  obtain⟨x,at2,sd2,e,hx,hc2⟩:=fS hl hc (by omega) (sd:=sd) ([(⟨#[97]⟩:ByteArray),(⟨#[98]⟩:ByteArray),(⟨#[119,119,119]⟩:ByteArray),(⟨#[115,117,98]⟩:ByteArray),(⟨#[42]⟩:ByteArray),(⟨#[120,49]⟩:ByteArray),(⟨#[110,115]⟩:ByteArray)]:List ByteArray) (by decide);have hsz:x.size≤3:=fW (by decide) hx;have h46:(⟨#[46]⟩:ByteArray).size=1:=rfl;obtain⟨s,at3,sd3,f,hs,hc3⟩:=ln hl m at2 sd2 (n+2) ((x++(⟨#[46]⟩:ByteArray))++acc) hc2 (by omega) (by rw[ByteArray.size_append,ByteArray.size_append,h46];omega) (by omega);refine⟨s,at3,sd3,?_,?_,?_⟩
  · conv => lhs; unfold bb.l0
    rw[if_pos (by omega),e,Option.bind_some];dsimp only;rw[if_pos (by omega),if_pos (by rw[ByteArray.size_append,h46];omega),show wrap64 (((m+1:Nat):Int)-1)=(m:Int) by unfold wrap64;omega];exact f
  · rw [ByteArray.size_append, ByteArray.size_append, h46] at hs
    omega
  · rw [show n + 2 * (m + 1) = n + 2 + 2 * m by omega]
    exact hc3
theorem lv{l:List Int}(hl:fg l){at_ sd:Int}{n:Nat}(hc:Cur at_ n)(hn:n<4611686018427380000):
 ∃ s at2 sd2,Ev (fun k=>bb.f k l at_ sd) (s,at2,sd2)∧s.size≤60∧Cur at2 (n+20):=by
 have up:∀ {a:Int} {p q:Nat},Cur a p→p≤q→Cur a q:=fun h k=>⟨h.1,by have:=h.2;omega⟩
 obtain⟨i,at2,sd2,e,hi,hc2⟩:=dY hl hc (by omega) (sd:=sd) 40
 by_cases h0:i=0
 · obtain ⟨x, at3, sd3, e3, hx, hc3⟩ := fS hl hc2 (by omega) (sd := sd2) ([(⟨#[]⟩ : ByteArray), (⟨#[46]⟩ : ByteArray), (⟨#[97, 46, 46, 98]⟩ : ByteArray), (⟨#[65]⟩ : ByteArray), (⟨#[97, 46]⟩ : ByteArray), (⟨#[97, 42]⟩ : ByteArray), (⟨#[97, 46, 98, 46, 99, 46, 100, 46, 101, 46, 102, 46, 103, 46, 104]⟩ : ByteArray), (⟨#[97, 46, 98, 46, 99, 46, 100, 46, 101, 46, 102, 46, 103, 46, 104, 46, 105]⟩ : ByteArray), (⟨#[97, 98, 99, 100, 101, 102, 103, 104, 105, 106, 107, 108, 109, 110, 111, 112, 113, 114, 115, 116]⟩ : ByteArray), (⟨#[97, 98, 99, 100, 101, 102, 103, 104, 105, 106, 107, 108, 109, 110, 111, 112, 113, 114, 115, 116, 117]⟩ : ByteArray)] : List ByteArray) (by decide)
   refine⟨x,at3,sd3,Ev.congr (fun k=>?_) (Ev.now _),fW (by decide) hx,up hc3 (by omega)⟩;unfold bb.f;rw[e];simp only[Option.bind_some];rw[if_pos h0,e3];rfl
 · by_cases h1 : i = 1
   · obtain ⟨x, at3, sd3, e3, hx, hc3⟩ := fS hl hc2 (by omega) (sd := sd2) ([(⟨#[]⟩ : ByteArray), (⟨#[99, 111, 109]⟩ : ByteArray)] : List ByteArray) (by decide)
     refine⟨x,at3,sd3,Ev.congr (fun k=>?_) (Ev.now _),fW (by decide) hx,up hc3 (by omega)⟩;unfold bb.f;rw[e];simp only[Option.bind_some];rw[if_neg h0,if_pos h1,e3];rfl
   · obtain ⟨x, at3, sd3, e3, hx, hc3⟩ := fS hl hc2 (by omega) (sd := sd2) ([(⟨#[101, 120]⟩ : ByteArray), (⟨#[99, 111, 109]⟩ : ByteArray), (⟨#[101, 120, 46, 99, 111, 109]⟩ : ByteArray), (⟨#[101, 120, 46, 99, 111, 109]⟩ : ByteArray), (⟨#[101, 120, 46, 99, 111, 109]⟩ : ByteArray)] : List ByteArray) (by decide)
     have hsz:x.size≤6:=fW (by decide) hx;obtain⟨j,at4,sd4,e4,hj,hc4⟩:=dY hl hc3 (by omega) (sd:=sd3) 3;obtain⟨m,rfl⟩:∃ m:Nat,j=(m:Int):=⟨j.toNat,by omega⟩;obtain⟨s,at5,sd5,e5,hs,hc5⟩:=ln hl m at4 sd4 _ x hc4 (by omega) (by omega) (by omega);refine⟨s,at5,sd5,Ev.of (fun k=>bb.m _ _ _ _) (k:=m+1) ?_,by omega,up hc5 (by omega)⟩;unfold bb.f;rw[e];simp only[Option.bind_some];rw[if_neg h0,if_neg h1,e3];simp only[Option.bind_some];rw[e4];simp only[Option.bind_some];exact e5
end Go.Proofs.YtiegkjimpclmaaaGreatDoor.Pure
namespace Go.Proofs.YtiegkjimpclmaaaGreatDoor.P
attribute [local go_sem] cG cD c_ cZ ci ch cE cH
def dn.f(a0:ByteArray): Option (Bool):=if a0.toList=([]:List UInt8)then(some false)else((cg.f a0).bind fun g0=>(if g0=true then((dC.f a0 (⟨#[42]⟩:ByteArray)).bind fun g1=>(some (!g1)))else(some false)))
theorem dn.c(a0:ByteArray)(r:Bool)(w:World)(h:dn.f a0=some r):
 Calls Tryz.prog 90 #[.string a0] w fun e w'=>e = .returned (.bool r)∧Below w.heap.size w w':=by
 have HB:=a0_ (Below.refl w.heap.size w);have H:=h;clear h;unfold dn.f at H
 by_cases c2:a0.toList=([]:List UInt8)
 case pos=>
  rw[if_pos c2]at H;have c2b0:=beq_iff_eq.mpr c2;have c2b1:=bne_eq_false_iff_eq.mpr c2;clear c2;obtain rfl:=Option.some.inj H;go_enter Tryz.func90,Tryz.ntmps90;go_wp2;go_ret;exact⟨rr_,ay⟩
 rw[if_neg c2]at H;have c2b0:=beq_eq_false_iff_ne.mpr c2;have c2b1:=bne_iff_ne.mpr c2;obtain⟨g0,A3,H⟩:=ob_ H
 by_cases c4:g0=true
 case neg=>
  replace c4:=Bool.eq_false_iff.mpr c4;subst c4;rw[if_neg ff_]at H;obtain rfl:=Option.some.inj H;go_enter Tryz.func90,Tryz.ntmps90;go_wp2_with (first|(go_at_call 83;(with_reducible refine(cg.c a0 false _ A3.out).mono ?_);rintro e w7 ⟨rfl,hb⟩;replace HB:=a0_ (aa ay hb);clear hb));go_ret;exact⟨rr_,ay⟩
 subst c4;rw[if_pos rfl]at H;obtain⟨g1,A5,H⟩:=ob_ H;obtain rfl:=Option.some.inj H;go_enter Tryz.func90,Tryz.ntmps90;go_wp2_with (first|(go_at_call 83;(with_reducible refine(cg.c a0 true _ A3.out).mono ?_);rintro e w6 ⟨rfl,hb⟩;replace HB:=a0_ (aa ay hb);clear hb)|(go_at_call 151;(with_reducible refine(dC.c a0 (⟨#[42]⟩:ByteArray) g1 _ A5.out).mono ?_);rintro e w' ⟨rfl,⟨nd,rfl⟩⟩));go_ret;exact⟨rr_,ay⟩
mutual
def aA.l0: Nat→List (S45)→Int→Option ((List (S45)))
 | 0,_,_=>none
 | k+1,x0,x3=>if x3>0 then(if 0≤(wrap64 (x3-1))then(if(wrap64 (x3-1))<(x0.length:Int)then(if 0≤x3 then(if x3<(x0.length:Int)then((bV.f k ((ae x0 (wrap64 (x3-1))).f0) ((ae x0 (wrap64 (x3-1))).f1) ((ae x0 (wrap64 (x3-1))).f2) ((ae x0 (wrap64 (x3-1))).f3) ((ae x0 x3).f0) ((ae x0 x3).f1) ((ae x0 x3).f2) ((ae x0 x3).f3)).bind fun g0=>(aA.j1 k x0 x3 (g0==0)))else(none))else(none))else(none))else(none))else(aA.j1 k x0 x3 false)
def aA.j1: Nat→List (S45)→Int→Bool→Option ((List (S45)))
 | 0,_,_,_=>none
 | k+1,x0,x3,g0=>if g0=true then(aA.l0 k x0 (wrap64 (x3-1)))else(if 0≤x3 then(if x3≤(x0.length:Int)then(some (x0.take (x3:Int).toNat))else(none))else(none))
end
def aA.f(k:Nat)(l0:List (S45)): Option ((List (S45))):=aA.l0 k l0 (wrap64 ((l0.length:Int)-1))
def aA.T2: Bool×List (List Nat×List Nat):=(true,[([],[]),([0],[0]),([1],[1]),([2],[2]),([2],[2]),([4,2],[2,4]),([3,5,2],[2,3,5]),([6,2],[2,6]),([2],[2]),([2],[2]),([8,9,2],[2,8,9]),([10,2],[2,10]),([7,11,2,2],[2,7,11]),([12,2],[2,12]),([2,13],[2,13])])
def aA.B2: List Nat:=[0,1,3,7,7,23,63,127,7,7,775,1799,4095,8191,16383]
theorem aA.tab2: eA .any (fc Tryz.f108 2)=aA.T2:=by kernel_rfl
theorem aA.bits2: du aA.T2.2 aA.B2=true:=by kernel_rfl
mutual
def ag.l0: Nat→ByteArray→List ByteArray→List ByteArray→Int→Int→Option (ByteArray×Bool)
 | 0,_,_,_,_,_=>none
 | k+1,x6,x7,g1,g4,g0=>if g0<g4 then(if 0≤g0 then(if g0<(g1.length:Int)then((aN.f k (bn ByteArray.empty g1 g0)).bind fun g2=>((cj.f g2 0 255).bind fun g5=>(if g5=true then((am.f k g2 1).bind fun g3=>(if x6.size+g3.size≤9223372036854775807 then(ag.l0 k (x6++g3) x7 g1 g4 (wrap64 (g0+1)))else(none)))else(some ((⟨#[]⟩:ByteArray),false)))))else(none))else(none))else(some (x6,((x7.length:Int)==4)))
def ag.j1: Nat→ByteArray→Int→Bool→Option (ByteArray×Bool)
 | 0,_,_,_=>none
 | k+1,x1,g1,j0=>if j0=true then((a_.f k x1).bind fun g3=>(if g3=true then((bh.f k x1).bind fun g4=>(some (g4,true)))else(some ((⟨#[]⟩:ByteArray),false))))else(if g1=6 then((aN.f k x1).bind fun g2=>((am.f k g2 4).bind fun g5=>((cj.f g2 0 4294967295).bind fun g6=>(some (g5,g6)))))else(if g1=15 then((aQ.f k x1 32).bind fun g0=>(if(g0.length:Int)=2 then(if 0<(g0.length:Int)then((aN.f k (bn ByteArray.empty g0 0)).bind fun g7=>((cj.f g7 0 65535).bind fun g8=>(if g8=true then(if 1<(g0.length:Int)then((a_.f k (bn ByteArray.empty g0 1)).bind fun g9=>(ag.j2 k g0 (!g9)))else(none))else(ag.j2 k g0 true))))else(none))else(ag.j2 k g0 true)))else(if g1=16 then(ag.l1 k x1 0)else(some ((⟨#[]⟩:ByteArray),false)))))
def ag.j2: Nat→List ByteArray→Bool→Option (ByteArray×Bool)
 | 0,_,_=>none
 | k+1,g0,g4=>if g4=true then(some ((⟨#[]⟩:ByteArray),false))else(if 0<(g0.length:Int)then((aN.f k (bn ByteArray.empty g0 0)).bind fun g3=>((am.f k g3 2).bind fun g1=>(if 1<(g0.length:Int)then((bh.f k (bn ByteArray.empty g0 1)).bind fun g2=>(if g1.size+g2.size≤9223372036854775807 then(some (g1++g2,true))else(none)))else(none))))else(none))
def ag.l1: Nat→ByteArray→Int→Option (ByteArray×Bool)
 | 0,_,_=>none
 | k+1,x1,g0=>if g0<(x1.size:Int)then(if 0≤g0 then(if(bt x1 g0)<32 then(some ((⟨#[]⟩:ByteArray),false))else(if(bt x1 g0)>126 then(some ((⟨#[]⟩:ByteArray),false))else(ag.l1 k x1 (wrap64 (g0+1)))))else(none))else((some (([((x1.size:Int))%256]:List Int):List Int)).bind fun g1=>(if(strOfNums g1).size+x1.size≤9223372036854775807 then(some ((strOfNums g1)++x1,decide ((x1.size:Int)≤30)))else(none)))
end
def ag.f(k:Nat)(a0:Int)(a1:ByteArray): Option (ByteArray×Bool):=if a0=1 then((aQ.f k a1 46).bind fun g0=>(ag.l0 k (⟨#[]⟩:ByteArray) g0 g0 (g0.length:Int) 0))else(if a0=2 then(ag.j1 k a1 a0 (a0==2))else(ag.j1 k a1 a0 (a0==5)))
theorem ag.mono_l: ∀ k,(∀ y0 y1 y2 y3 y4,LeO (ag.l0 k y0 y1 y2 y3 y4) (ag.l0 (k+1) y0 y1 y2 y3 y4))∧(∀ y0 y1 y2,LeO (ag.j1 k y0 y1 y2) (ag.j1 (k+1) y0 y1 y2))∧(∀ y0 y1,LeO (ag.j2 k y0 y1) (ag.j2 (k+1) y0 y1))∧(∀ y0 y1,LeO (ag.l1 k y0 y1) (ag.l1 (k+1) y0 y1))
 | 0=>⟨fun _ _ _ _ _ r h=>by simp[ag.l0]at h,fun _ _ _ r h=>by simp[ag.j1]at h,fun _ _ r h=>by simp[ag.j2]at h,fun _ _ r h=>by simp[ag.l1]at h⟩
 | k+1=>by
  obtain⟨ih0,ih1,ih2,ih3⟩:=ag.mono_l k;refine⟨?_,?_,?_,?_⟩
  · intro y0 y1 y2 y3 y4
    unfold ag.l0
    repeat' first|(with_reducible first|exact ih0 _ _ _ _ _|exact ih1 _ _ _|exact ih2 _ _|exact ih3 _ _|exact aN.m _ _|exact aQ.m _ _ _|exact bh.m _ _|exact am.m _ _ _|exact a_.m _ _|exact LeO.refl _|exact LeO.none _|refine LeO.ite ?_ ?_|refine LeO.bind ?_ (fun _=>?_))|exact LeO.none _|refine LeO.ite ?_ ?_|refine LeO.bind ?_ (fun _=>?_)
  · intro y0 y1 y2
    unfold ag.j1
    repeat' first|(with_reducible first|exact ih0 _ _ _ _ _|exact ih1 _ _ _|exact ih2 _ _|exact ih3 _ _|exact aN.m _ _|exact aQ.m _ _ _|exact bh.m _ _|exact am.m _ _ _|exact a_.m _ _|exact LeO.refl _|exact LeO.none _|refine LeO.ite ?_ ?_|refine LeO.bind ?_ (fun _=>?_))|exact LeO.none _|refine LeO.ite ?_ ?_|refine LeO.bind ?_ (fun _=>?_)
  · intro y0 y1
    unfold ag.j2
    repeat' first|(with_reducible first|exact ih0 _ _ _ _ _|exact ih1 _ _ _|exact ih2 _ _|exact ih3 _ _|exact aN.m _ _|exact aQ.m _ _ _|exact bh.m _ _|exact am.m _ _ _|exact a_.m _ _|exact LeO.refl _|exact LeO.none _|refine LeO.ite ?_ ?_|refine LeO.bind ?_ (fun _=>?_))|exact LeO.none _|refine LeO.ite ?_ ?_|refine LeO.bind ?_ (fun _=>?_)
  · intro y0 y1
    unfold ag.l1
    repeat' first|(with_reducible first|exact ih0 _ _ _ _ _|exact ih1 _ _ _|exact ih2 _ _|exact ih3 _ _|exact aN.m _ _|exact aQ.m _ _ _|exact bh.m _ _|exact am.m _ _ _|exact a_.m _ _|exact LeO.refl _|exact LeO.none _|refine LeO.ite ?_ ?_|refine LeO.bind ?_ (fun _=>?_))|exact LeO.none _|refine LeO.ite ?_ ?_|refine LeO.bind ?_ (fun _=>?_)
theorem ag.m: ∀ a0 a1 k,LeO (ag.f k a0 a1) (ag.f (k+1) a0 a1):=by
 intro a0 a1 k;obtain⟨ih0,ih1,ih2,ih3⟩:=ag.mono_l k;unfold ag.f
 repeat' first|(with_reducible first|exact ih0 _ _ _ _ _|exact ih1 _ _ _|exact ih2 _ _|exact ih3 _ _|exact aN.m _ _|exact aQ.m _ _ _|exact bh.m _ _|exact am.m _ _ _|exact a_.m _ _|exact LeO.refl _|exact LeO.none _|refine LeO.ite ?_ ?_|refine LeO.bind ?_ (fun _=>?_))|exact LeO.none _|refine LeO.ite ?_ ?_|refine LeO.bind ?_ (fun _=>?_)
def ag.T26: Bool×List (List Nat×List Nat):=(true,[([],[]),([0],[0]),([1],[1]),([2],[2]),([3,3],[3]),([],[]),([5],[5]),([6],[6]),([7,4],[7]),([4,8],[4,8]),([9,8,0,1,2,3,4,5,6,7,8,9],[9]),([10,0,1,2,3,4,5,6,7,8,9,10],[])])
def ag.B26: List Nat:=[0,1,3,7,15,0,32,96,255,511,1023,2047]
theorem ag.tab26: eA .any (fc Tryz.f55 26)=ag.T26:=by kernel_rfl
theorem ag.bits26: du ag.T26.2 ag.B26=true:=by kernel_rfl
theorem ag.c(k:Nat)(a0:Int)(a1:ByteArray)(r1:ByteArray)(r2:Bool)(w:World)(h:ag.f k a0 a1=some (r1,r2)):
 Calls Tryz.prog 55 #[.int .i64 a0,.string a1] w fun e w'=>e = .returned (.tuple #[.string r1,.bool r2])∧Below w.heap.size w w':=by
 have HB:=a0_ (Below.refl w.heap.size w);have H:=h;clear h;unfold ag.f at H
 by_cases c3:a0=1
 case pos=>
  rw[if_pos c3]at H;have c3b0:=beq_iff_eq.mpr c3;have c3b1:=bne_eq_false_iff_eq.mpr c3;clear c3;obtain⟨g3,A4,H⟩:=ob_ H;have H':=a0_ H;clear H;go_enter Tryz.func55,Tryz.ntmps55;go_wp2_with (first|((with_reducible refine gt_ 116 rfl ?_);refine gs_ 18 Tryz.func116 #[.string a1,.int .u8 46] ?_;(with_reducible refine(aQ.c k a1 46 g3 _ A4.out).mono ?_);rintro e w5 ⟨Z7,rfl,ho0,hb⟩;refine⟨_,rfl,?_⟩;have b6:=a0_ (Kd.R_lower ho0 (aj ay));replace HB:=a0_ (aa ay hb);clear hb;(try clear ho0);obtain⟨Ao6,co6,eo6⟩:=Kd.R_slice b6.out;subst eo6));go_loopg [6,21] k (fun kq v6 Q4 w'=> ∃ (x6_1:ByteArray) (g2:Int),v6 = .string x6_1∧Q4 = .int .i64 g2∧ab (ag.l0 kq x6_1 g3 g3 (g3.length:Int) g2=some (r1,r2))∧ab (kq≤k)∧ab (Kd.R Kd.string 9 w' w.heap.size (fun _=>True) (.slice Ao6 g3.length co6) g3)∧ab (Kd.R Kd.string 9 w' w.heap.size (fun _=>True) (.slice Ao6 g3.length co6) g3)∧ab (Below w.heap.size w w'))
  case atStart=>exact⟨((⟨#[]⟩:ByteArray)),(0),rs_,rs_,H',⟨Nat.le_refl _⟩,⟨kR_ b6.out⟩,⟨kR_ b6.out⟩,⟨ay⟩⟩
  case round=>
   clear H'
   try clear c3
   try clear c3b0
   try clear c3b1
   obtain⟨x6_1,g2,rfl,rfl,HA,HK1,HO_7,j5,HB⟩:=hrel
   cases gk with
   | zero=>exact absurd HA.out (by simp[ag.l0])
   | succ k1=>
    have H:=HA.out;clear HA;simp only[ag.l0]at H
    by_cases c7:g2<(g3.length:Int)
    case neg=>
     rw[if_neg c7]at H;have c7b0:=decide_eq_false c7;clear c7;simp only[Option.some.injEq,Prod.mk.injEq]at H;obtain⟨rfl,rfl⟩:=H;go_wp2;go_ret2;exact⟨rr_,ay⟩
    rw[if_pos c7]at H;have c7b0:=decide_eq_true c7;clear c7
    by_cases c8:0≤g2
    case neg=>
     rw[if_neg c8]at H;exact absurd H (by simp)
    rw[if_pos c8]at H;have c8b0:=decide_eq_true c8;clear c8
    by_cases c9:g2<(g3.length:Int)
    case neg=>
     rw[if_neg c9]at H;exact absurd H (by simp)
    rw[if_pos c9]at H;have c9b0:=decide_eq_true c9;clear c9;obtain⟨g8,G2,H⟩:=ob_ H;obtain⟨G9,G3,H⟩:=ob_ H
    by_cases b0:G9=true
    case neg=>
     replace b0:=Bool.eq_false_iff.mpr b0;subst b0;rw[if_neg ff_]at H;simp only[Option.some.injEq,Prod.mk.injEq]at H;obtain⟨rfl,rfl⟩:=H;have y4:=t0_ (g2);have y5:=tl_ (g2) (g3.length);obtain⟨V3,d9,y2⟩:=Kd.at_string (Kd.R_reads' j5.out).2.2 g2 (of_eq_true y4) (of_eq_true y5);cases d9;go_wp2_with (first|((with_reducible refine gt_ 117 rfl ?_);refine gs_ 26 Tryz.func117 #[.string (bn ByteArray.empty g3 g2)] ?_;(with_reducible refine(aN.c k1 (bn ByteArray.empty g3 g2) g8 _ G2.out).mono ?_);rintro e w' ⟨rfl,⟨nd,rfl⟩⟩;refine⟨_,rfl,?_⟩)|((with_reducible refine gt_ 102 rfl ?_);refine gs_ 28 Tryz.func102 #[.int .i64 g8,.int .i64 0,.int .i64 255] ?_;(with_reducible refine(cj.c g8 0 255 false _ G3.out).mono ?_);rintro e w' ⟨rfl,⟨nd,rfl⟩⟩;refine⟨_,rfl,?_⟩));go_ret2;exact⟨rr_,ay⟩
    subst b0;rw[if_pos rfl]at H;obtain⟨b7,Q5,H⟩:=ob_ H
    by_cases y6:x6_1.size+b7.size≤9223372036854775807
    case neg=>
     rw[if_neg y6]at H;exact absurd H (by simp)
    rw[if_pos y6]at H;have f2:=eq_true y6;have f3:=decide_eq_true y6
    try have f4:(9223372036854775807<x6_1.size+b7.size)=False:=eq_false (Nat.not_lt.2 y6)
    have H':=a0_ H;clear H;have y4:=t0_ (g2);have y5:=tl_ (g2) (g3.length);obtain⟨V3,d9,y2⟩:=Kd.at_string (Kd.R_reads' j5.out).2.2 g2 (of_eq_true y4) (of_eq_true y5);cases d9;go_wp2_with (first|((with_reducible refine gt_ 117 rfl ?_);refine gs_ 26 Tryz.func117 #[.string (bn ByteArray.empty g3 g2)] ?_;(with_reducible refine(aN.c k1 (bn ByteArray.empty g3 g2) g8 _ G2.out).mono ?_);rintro e w' ⟨rfl,⟨nd,rfl⟩⟩;refine⟨_,rfl,?_⟩)|((with_reducible refine gt_ 102 rfl ?_);refine gs_ 28 Tryz.func102 #[.int .i64 g8,.int .i64 0,.int .i64 255] ?_;(with_reducible refine(cj.c g8 0 255 true _ G3.out).mono ?_);rintro e w' ⟨rfl,⟨nd,rfl⟩⟩;refine⟨_,rfl,?_⟩)|((with_reducible refine gt_ 118 rfl ?_);refine gs_ 32 Tryz.func118 #[.int .i64 g8,.int .i64 1] ?_;(with_reducible refine(am.c k1 g8 1 b7 _ Q5.out).mono ?_);rintro e F7 ⟨rfl,hb⟩;refine⟨_,rfl,?_⟩;replace HO_7:=a0_ (Kd.R_below (kR_ HO_7.out) hb);replace j5:=a0_ (Kd.R_below (kR_ j5.out) hb);replace HB:=a0_ (aa ay hb);clear hb));go_roundg k1
    case measure=>have:=HK1.out;omega
    case rel=>exact⟨(x6_1++b7),(wrap64 (g2+1)),rs_,rs_,H',jl_ HK1,⟨kR_ HO_7.out⟩,⟨kR_ j5.out⟩,⟨ay⟩⟩
 rw[if_neg c3]at H;have c3b0:=beq_eq_false_iff_ne.mpr c3;have c3b1:=bne_iff_ne.mpr c3;have z0:=a0_ H;clear H;go_enter Tryz.func55,Tryz.ntmps55;go_upto_if 39 with(fail);go_cut [39] (fun Q6 wc=> ∃ (kq:Nat) (j6:Bool),Q6 = .bool j6∧ab (ag.j1 kq a1 a0 j6=some (r1,r2))∧ab (kq≤k)∧ab (Below w.heap.size w wc))
 case first=>
  have H:=z0.out;clear z0
  by_cases j7:a0=2
  case neg=>
   rw[if_neg j7]at H;have g7:=beq_eq_false_iff_ne.mpr j7;have b8:=bne_iff_ne.mpr j7
   (first|rw[g7]|(simp only[bu,bI];rw[g7])|skip)
   have H':=a0_ H;clear H;go_wp2;go_meet
   case rel=>exact⟨_,((a0==5)),rs_,H',⟨by first|omega|exact Nat.le_refl _⟩,⟨ay⟩⟩
  rw[if_pos j7]at H;have g7:=beq_iff_eq.mpr j7;have b8:=bne_eq_false_iff_eq.mpr j7;clear j7
  (first|rw[g7]|(simp only[bu,bI];rw[g7])|skip)
  have H':=a0_ H;clear H;go_wp2;go_meet
  case rel=>exact⟨_,((a0==2)),rs_,H',⟨by first|omega|exact Nat.le_refl _⟩,⟨ay⟩⟩
 case rest=>
  clear z0
  try clear c3
  try clear c3b0
  try clear c3b1
  obtain⟨kq,j6,rfl,HA,HJ15,HB⟩:=hcut
  cases kq with
  | zero=>exact absurd HA.out (by simp[ag.j1])
  | succ kj15=>
   have H:=HA.out;clear HA;simp only[ag.j1]at H
   by_cases b1:j6=true
   case pos=>
    subst b1;rw[if_pos rfl]at H;obtain⟨J0,G4,H⟩:=ob_ H
    by_cases f5:J0=true
    case neg=>
     replace f5:=Bool.eq_false_iff.mpr f5;subst f5;rw[if_neg ff_]at H;simp only[Option.some.injEq,Prod.mk.injEq]at H;obtain⟨rfl,rfl⟩:=H;go_wp2_with (first|((with_reducible refine gt_ 119 rfl ?_);refine gs_ 43 Tryz.func119 #[.string a1] ?_;(with_reducible refine(a_.c kj15 a1 false _ G4.out).mono ?_);rintro e F8 ⟨rfl,hb⟩;refine⟨_,rfl,?_⟩;replace HB:=a0_ (aa ay hb);clear hb));go_ret2;exact⟨rr_,ay⟩
    subst f5;rw[if_pos rfl]at H;obtain⟨J1,Q7,H⟩:=ob_ H;simp only[Option.some.injEq,Prod.mk.injEq]at H;obtain⟨rfl,rfl⟩:=H;go_wp2_with (first|((with_reducible refine gt_ 119 rfl ?_);refine gs_ 43 Tryz.func119 #[.string a1] ?_;(with_reducible refine(a_.c kj15 a1 true _ G4.out).mono ?_);rintro e F9 ⟨rfl,hb⟩;refine⟨_,rfl,?_⟩;replace HB:=a0_ (aa ay hb);clear hb)|((with_reducible refine gt_ 120 rfl ?_);refine gs_ 46 Tryz.func120 #[.string a1] ?_;(with_reducible refine(bh.c kj15 a1 J1 _ Q7.out).mono ?_);rintro e N0 ⟨rfl,hb⟩;refine⟨_,rfl,?_⟩;replace HB:=a0_ (aa ay hb);clear hb));go_ret2;exact⟨rr_,ay⟩
   replace b1:=Bool.eq_false_iff.mpr b1;subst b1;rw[if_neg ff_]at H
   by_cases j8:a0=6
   case pos=>
    rw[if_pos j8]at H;have b9:=beq_iff_eq.mpr j8;have d0:=bne_eq_false_iff_eq.mpr j8;clear j8;obtain⟨y7,Q8,H⟩:=ob_ H;obtain⟨J2,Q9,H⟩:=ob_ H;obtain⟨J3,D0,H⟩:=ob_ H;simp only[Option.some.injEq,Prod.mk.injEq]at H;obtain⟨rfl,rfl⟩:=H;go_wp2_with (first|((with_reducible refine gt_ 117 rfl ?_);refine gs_ 50 Tryz.func117 #[.string a1] ?_;(with_reducible refine(aN.c kj15 a1 y7 _ Q8.out).mono ?_);rintro e w' ⟨rfl,⟨nd,rfl⟩⟩;refine⟨_,rfl,?_⟩)|((with_reducible refine gt_ 118 rfl ?_);refine gs_ 52 Tryz.func118 #[.int .i64 y7,.int .i64 4] ?_;(with_reducible refine(am.c kj15 y7 4 J2 _ Q9.out).mono ?_);rintro e N1 ⟨rfl,hb⟩;refine⟨_,rfl,?_⟩;replace HB:=a0_ (aa ay hb);clear hb)|((with_reducible refine gt_ 102 rfl ?_);refine gs_ 54 Tryz.func102 #[.int .i64 y7,.int .i64 0,.int .i64 4294967295] ?_;(with_reducible refine(cj.c y7 0 4294967295 J3 _ D0.out).mono ?_);rintro e w' ⟨rfl,⟨nd,rfl⟩⟩;refine⟨_,rfl,?_⟩));go_ret2;exact⟨rr_,ay⟩
   rw[if_neg j8]at H;have b9:=beq_eq_false_iff_ne.mpr j8;have d0:=bne_iff_ne.mpr j8
   by_cases j9:a0=15
   case neg=>
    rw[if_neg j9]at H;have d3:=beq_eq_false_iff_ne.mpr j9;have d4:=bne_iff_ne.mpr j9
    by_cases y3:a0=16
    case neg=>
     rw[if_neg y3]at H;have f6:=beq_eq_false_iff_ne.mpr y3;have f7:=bne_iff_ne.mpr y3;simp only[Option.some.injEq,Prod.mk.injEq]at H;obtain⟨rfl,rfl⟩:=H;go_wp2;go_ret2;exact⟨rr_,ay⟩
    rw[if_pos y3]at H;have f6:=beq_iff_eq.mpr y3;have f7:=bne_eq_false_iff_eq.mpr y3;clear y3;have H':=a0_ H;clear H;go_wp2;go_loopg [13] kj15 (fun kq D1 w'=> ∃ (g0:Int),D1 = .int .i64 g0∧ab (ag.l1 kq a1 g0=some (r1,r2))∧ab (kq≤kj15)∧ab (Below w.heap.size w w'))
    case atStart=>exact⟨(0),rs_,H',⟨Nat.le_refl _⟩,⟨ay⟩⟩
    case round=>
     clear H'
     try clear c1
     try clear p1
     try clear q1
     try clear hx1
     try clear p2
     try clear c3
     try clear c3b0
     try clear c3b1
     try clear c5
     try clear p6
     try clear c7
     try clear c7b0
     try clear c8
     try clear c8b0
     try clear c9
     try clear c9b0
     try clear D2
     try clear D3
     try clear b0
     try clear y6
     try clear f2
     try clear f3
     try clear f4
     try clear T7
     try clear T8
     try clear J4
     try clear j7
     try clear g7
     try clear b8
     try clear b1
     try clear j8
     try clear b9
     try clear d0
     try clear j9
     try clear d3
     try clear d4
     try clear y3
     try clear f6
     try clear f7
     try clear y2
     try clear p1
     try clear T7
     try clear y4
     try clear p2
     try clear p6
     try clear q1
     try clear T8
     try clear y5
     obtain⟨g0,rfl,HA,HK2,HB⟩:=hrel
     cases gk with
     | zero=>exact absurd HA.out (by simp[ag.l1])
     | succ k2=>
      have H:=HA.out;clear HA;simp only[ag.l1]at H
      by_cases b2:g0<(a1.size:Int)
      case neg=>
       rw[if_neg b2]at H;have V4:=decide_eq_false b2;clear b2;obtain⟨T9,d5⟩:∃ y_:List Int,y_=(([((a1.size:Int))%256]:List Int)):=⟨_,rfl⟩;replace H:=by_ d5 H;have f8:=a0_ d5;clear d5
       by_cases d7:(strOfNums T9).size+a1.size≤9223372036854775807
       case neg=>
        rw[if_neg d7]at H;exact absurd H (by simp)
       rw[if_pos d7]at H;have Y2:=eq_true d7;have Y3:=decide_eq_true d7
       try have Y4:(9223372036854775807<(strOfNums T9).size+a1.size)=False:=eq_false (Nat.not_lt.2 d7)
       simp only[Option.some.injEq,Prod.mk.injEq]at H;obtain⟨rfl,rfl⟩:=H;go_wp2_with (first|((with_reducible refine ax (N:=108) rfl ?_);refine Kd.R_lit (Kd.int .u8) _ 5 ?hg (N:=108) ?hd (xs:=([((a1.size:Int))%256]:List Int)) (inner:=[.int .u8 (((a1.size:Int))%256)]) (ok:=fun _=>True) (okp:=fun _=>True) ?hr ?hp (fun _ hk=>hk) trivial (Below.refl _ _) (Nat.le_refl _) (by simp) ?_;(case hd=>rfl);(case hg=>rfl);(case hr=>first|(go_simp;done)|(go_simp;rfl));(case hp=>exact(br.one (show Kd.M (Kd.int .u8) _ _ _ (((a1.size:Int))%256) [.int .u8 (((a1.size:Int))%256)]from rfl) (br.none _ _)));intro Z8 N2 y8 hb hg_ hnew_;clear hg_ hnew_;(first|rw[← f8.out]at y8|(simp only[Int.reduceToNat]at y8;rw[← f8.out]at y8));have V5:=a0_ (Kd.R_lower y8 (aj ay));replace HB:=a0_ (aa ay hb);clear hb y8;have hcv66:=ea (P:=Tryz.prog) Tryz.underlying43 Tryz.underlying5 Tryz.underlying9 (Kd.own_of_R V5.out)));go_ret2;exact⟨rr_,ay⟩
      rw[if_pos b2]at H;have V4:=decide_eq_true b2;clear b2
      by_cases f9:0≤g0
      case neg=>
       rw[if_neg f9]at H;exact absurd H (by simp)
      rw[if_pos f9]at H;have Y5:=decide_eq_true f9;clear f9
      by_cases b3:(bt a1 g0)<32
      case pos=>
       rw[if_pos b3]at H;have V6:=decide_eq_true b3;clear b3;simp only[Option.some.injEq,Prod.mk.injEq]at H;obtain⟨rfl,rfl⟩:=H;have G5:=t0_ (g0);have G6:=tl_ (g0) (a1.size);have V0:=cK a1 g0;go_wp2;go_ret2;exact⟨rr_,ay⟩
      rw[if_neg b3]at H;have V6:=decide_eq_false b3;clear b3
      by_cases b4:(bt a1 g0)>126
      case pos=>
       rw[if_pos b4]at H;have V7:=decide_eq_true b4;clear b4;simp only[Option.some.injEq,Prod.mk.injEq]at H;obtain⟨rfl,rfl⟩:=H;have G5:=t0_ (g0);have G6:=tl_ (g0) (a1.size);have V0:=cK a1 g0;have D4:=t0_ (g0);have D5:=tl_ (g0) (a1.size);have J5:=cK a1 g0;go_wp2;go_ret2;exact⟨rr_,ay⟩
      rw[if_neg b4]at H;have V7:=decide_eq_false b4;clear b4;have H':=a0_ H;clear H;have G5:=t0_ (g0);have G6:=tl_ (g0) (a1.size);have V0:=cK a1 g0;have D4:=t0_ (g0);have D5:=tl_ (g0) (a1.size);have J5:=cK a1 g0;go_wp2;go_roundg k2
      case measure=>have:=HJ15.out;have:=HK2.out;omega
      case rel=>exact⟨(wrap64 (g0+1)),rs_,H',jm_ HJ15 HK2,⟨ay⟩⟩
   rw[if_pos j9]at H;have d3:=beq_iff_eq.mpr j9;have d4:=bne_eq_false_iff_eq.mpr j9;clear j9;obtain⟨g1,D6,H⟩:=ob_ H;have z1:=a0_ H;clear H;go_upto_region 24 with(first|((with_reducible refine gt_ 116 rfl ?_);refine gs_ 58 Tryz.func116 #[.string a1,.int .u8 32] ?_;(with_reducible refine(aQ.c kj15 a1 32 g1 _ D6.out).mono ?_);rintro e N3 ⟨J6,rfl,ho0,hb⟩;refine⟨_,rfl,?_⟩;have g4:=a0_ (Kd.R_lower ho0 (aj ay));replace HB:=a0_ (aa ay hb);clear hb;(try clear ho0)))
   (try simp only[Act.put,List.setIfInBounds_toArray,List.set_cons_zero,List.set_cons_succ])
   go_cut [76] (fun D7 wc=> ∃ (kq:Nat) (y0:Bool),D7 = .bool y0∧ab (ag.j2 kq g1 y0=some (r1,r2))∧ab (kq≤kj15)∧ab (Kd.R Kd.string 9 wc w.heap.size (fun _=>True) J6 g1)∧ab (Below w.heap.size w wc))
   case first=>
    have H:=z1.out;clear z1
    by_cases y9:(g1.length:Int)=2
    case neg=>
     rw[if_neg y9]at H;have y1:=beq_eq_false_iff_ne.mpr y9;have V8:=bne_iff_ne.mpr y9
     (first|rw[y1]|(simp only[bu,bI];rw[y1])|skip)
     have H':=a0_ H;clear H;obtain⟨Z9,F0,J7⟩:=Kd.R_slice g4.out;subst J7;go_wp2;go_meet
     case rel=>exact⟨_,(true),rs_,H',jl_ HJ15,⟨kR_ g4.out⟩,⟨ay⟩⟩
    rw[if_pos y9]at H;have y1:=beq_iff_eq.mpr y9;have V8:=bne_eq_false_iff_eq.mpr y9;clear y9
    (first|rw[y1]|(simp only[bu,bI];rw[y1])|skip)
    by_cases T0:0<(g1.length:Int)
    case neg=>
     rw[if_neg T0]at H;exact absurd H (by simp)
    rw[if_pos T0]at H;have Y6:=decide_eq_true T0;have Y7:decide (0<g1.length)=true:=decide_eq_true (by omega);clear T0;obtain⟨d6,G7,H⟩:=ob_ H;obtain⟨J8,G8,H⟩:=ob_ H
    by_cases T1:J8=true
    case neg=>
     replace T1:=Bool.eq_false_iff.mpr T1;subst T1;rw[if_neg ff_]at H;have H':=a0_ H;clear H;obtain⟨F1,F2,J9⟩:=Kd.R_slice g4.out;subst J9;have j3:0≤(0:Int):=(by omega);have j4:0<(g1.length:Int):=dr;obtain⟨T2,z2,g6⟩:=Kd.at_string (Kd.R_reads' g4.out).2.2 0 j3 j4;cases z2;have qi176:(0<g1.length)=True:=eq_true (by omega)
     (try rw[show((0:Int)).toNat=0 from rfl]at g6)
     (try rw[Addr.add_zero']at g6)
     replace j3:=eq_true j3;replace j4:=eq_true j4;go_wp2_with (first|(go_at_call 117;(with_reducible refine(aN.c kj15 (bn ByteArray.empty g1 0) d6 _ G7.out).mono ?_);rintro e w' ⟨rfl,⟨nd,rfl⟩⟩)|(go_at_call 102;(with_reducible refine(cj.c d6 0 65535 false _ G8.out).mono ?_);rintro e w' ⟨rfl,⟨nd,rfl⟩⟩));go_meet
     case rel=>exact⟨_,(true),rs_,H',jl_ HJ15,⟨kR_ g4.out⟩,⟨ay⟩⟩
    subst T1;rw[if_pos rfl]at H
    by_cases T3:1<(g1.length:Int)
    case neg=>
     rw[if_neg T3]at H;exact absurd H (by simp)
    rw[if_pos T3]at H;have Y8:=decide_eq_true T3;have Y9:decide (1<g1.length)=true:=decide_eq_true (by omega);clear T3;obtain⟨V1,D8,H⟩:=ob_ H;have H':=a0_ H;clear H;obtain⟨F3,F4,Q0⟩:=Kd.R_slice g4.out;subst Q0;have j3:0≤(0:Int):=(by omega);have j4:0<(g1.length:Int):=dr;obtain⟨T2,z2,g6⟩:=Kd.at_string (Kd.R_reads' g4.out).2.2 0 j3 j4;cases z2;have qi176:(0<g1.length)=True:=eq_true (by omega)
    (try rw[show((0:Int)).toNat=0 from rfl]at g6)
    (try rw[Addr.add_zero']at g6)
    replace j3:=eq_true j3;replace j4:=eq_true j4;go_wp2_with (first|(go_at_call 117;(with_reducible refine(aN.c kj15 (bn ByteArray.empty g1 0) d6 _ G7.out).mono ?_);rintro e w' ⟨rfl,⟨nd,rfl⟩⟩)|(go_at_call 102;(with_reducible refine(cj.c d6 0 65535 true _ G8.out).mono ?_);rintro e w' ⟨rfl,⟨nd,rfl⟩⟩;have z3:0≤(1:Int):=(by omega);have z4:1<(g1.length:Int):=dr;obtain⟨V9,Q1,b5⟩:=Kd.at_string (Kd.R_reads' g4.out).2.2 1 z3 z4;obtain rfl:T2=V9:=(by injection Q1);(try simp only[show(1:Int).toNat=1 from rfl,Nat.reduceMul,Nat.reduceEqDiff,Go.Addr.add,↓reduceIte]at b5);have qi179:(1<g1.length)=True:=eq_true (by omega);(try rw[show((1:Int)).toNat=1 from rfl]at b5);replace z3:=eq_true z3;replace z4:=eq_true z4)|(go_at_call 119;(with_reducible refine(a_.c kj15 (bn ByteArray.empty g1 1) V1 _ D8.out).mono ?_);rintro e N4 ⟨rfl,hb⟩;replace g4:=a0_ (Kd.R_below (kR_ g4.out) hb);replace HB:=a0_ (aa ay hb);clear hb));go_meet
    case rel=>exact⟨_,(!V1),rs_,H',jl_ HJ15,⟨kR_ g4.out⟩,⟨ay⟩⟩
   case rest=>
    clear z1
    try clear c1
    try clear p1
    try clear q1
    try clear hx1
    try clear p2
    try clear c3
    try clear c3b0
    try clear c3b1
    try clear c5
    try clear p6
    try clear c7
    try clear c7b0
    try clear c8
    try clear c8b0
    try clear c9
    try clear c9b0
    try clear D2
    try clear D3
    try clear b0
    try clear y6
    try clear f2
    try clear f3
    try clear f4
    try clear T7
    try clear T8
    try clear J4
    try clear j7
    try clear g7
    try clear b8
    try clear b1
    try clear j8
    try clear b9
    try clear d0
    try clear j9
    try clear d3
    try clear d4
    try clear y2
    try clear p1
    try clear T7
    try clear y4
    try clear p2
    try clear p6
    try clear q1
    try clear T8
    try clear y5
    obtain⟨kq,y0,rfl,HA,HJ31,g5,HB⟩:=hcut
    cases kq with
    | zero=>exact absurd HA.out (by simp[ag.j2])
    | succ kj31=>
     have H:=HA.out;clear HA;simp only[ag.j2]at H
     by_cases T4:y0=true
     case pos=>
      subst T4;rw[if_pos rfl]at H;simp only[Option.some.injEq,Prod.mk.injEq]at H;obtain⟨rfl,rfl⟩:=H;go_wp2;go_ret2;exact⟨rr_,ay⟩
     replace T4:=Bool.eq_false_iff.mpr T4;subst T4;rw[if_neg ff_]at H
     by_cases T5:0<(g1.length:Int)
     case neg=>
      rw[if_neg T5]at H;exact absurd H (by simp)
     rw[if_pos T5]at H;have Z0:=decide_eq_true T5;have Z1:decide (0<g1.length)=true:=decide_eq_true (by omega);clear T5;obtain⟨z5,D9,H⟩:=ob_ H;obtain⟨z6,Y0,H⟩:=ob_ H
     by_cases T6:1<(g1.length:Int)
     case neg=>
      rw[if_neg T6]at H;exact absurd H (by simp)
     rw[if_pos T6]at H;have Z2:=decide_eq_true T6;have Z3:decide (1<g1.length)=true:=decide_eq_true (by omega);clear T6;obtain⟨z7,Y1,H⟩:=ob_ H
     by_cases d8:z6.size+z7.size≤9223372036854775807
     case neg=>
      rw[if_neg d8]at H;exact absurd H (by simp)
     rw[if_pos d8]at H;have Z4:=eq_true d8;have Z5:=decide_eq_true d8
     try have Z6:(9223372036854775807<z6.size+z7.size)=False:=eq_false (Nat.not_lt.2 d8)
     simp only[Option.some.injEq,Prod.mk.injEq]at H;obtain⟨rfl,rfl⟩:=H
     try go_wp2
     replace g5:=a0_ (Kd.R_drew g5.out);replace HB:=a0_ (bp HB.out);obtain⟨F5,F6,V2⟩:=Kd.R_slice g5.out
     (first|subst V2|(injection V2 with f1_ f2_ f3_;have f4_:=f1_.symm;have f5_:=f3_.symm;clear f1_ f2_ f3_;subst f4_;subst f5_))
     have z8:0≤(0:Int):=(by omega);have z9:0<(g1.length:Int):=dr;obtain⟨G0,Q2,g9⟩:=Kd.at_string (Kd.R_reads' g5.out).2.2 0 z8 z9;cases Q2;have qi181:(0<g1.length)=True:=eq_true (by omega)
     (try rw[show((0:Int)).toNat=0 from rfl]at g9)
     (try rw[Addr.add_zero']at g9)
     replace z8:=eq_true z8;replace z9:=eq_true z9;have f0:0≤(1:Int):=(by omega);have f1:1<(g1.length:Int):=dr;obtain⟨G1,Q3,j0⟩:=Kd.at_string (Kd.R_reads' g5.out).2.2 1 f0 f1;obtain rfl:G0=G1:=(by injection Q3)
     (try simp only[show(1:Int).toNat=1 from rfl,Nat.reduceMul,Nat.reduceEqDiff,Go.Addr.add,↓reduceIte]at j0)
     have qi184:(1<g1.length)=True:=eq_true (by omega)
     (try rw[show((1:Int)).toNat=1 from rfl]at j0)
     replace f0:=eq_true f0;replace f1:=eq_true f1
     refine fN 12 [] (c1_ g9 (e1_ j0)) (fun hHeld=>?_);refine ck ag.tab26 ag.bits26 (fun HT_ HW_=>?_)
     generalize wc.drew=N5 at g5 HB g9 j0 hHeld ⊢
     refine p_ 0 77 ?_
     refine p_ 1 78 ?_
     refine p_ 5 82 ?_
     refine p_ 6 83 ?_
     refine t_ 2 79 ?_
     refine t_ 7 84 ?_
     refine dg 3 (some 80) (fun K hK=>?_)
     refine dm Tryz.func117 (by kernel_rfl) rfl #[.string (bn ByteArray.empty g1 0)] (by rfl) rfl rfl cS ?_
     with_reducible refine(aN.c kj31 (bn ByteArray.empty g1 0) z5 _ D9.out).mono ?_
     rintro e w' ⟨rfl,⟨nd,rfl⟩⟩;refine⟨_,rfl,?_⟩;refine hK.out _ _ (c1_ hHeld.1 (e1_ hHeld.2)).out (fun hHeld=>?_);clear hK K
     refine cU ?_
     refine dg 4 (some 81) (fun K hK=>?_)
     refine dm Tryz.func118 (by kernel_rfl) rfl #[.int .i64 z5,.int .i64 2] (by rfl) rfl rfl cS ?_
     with_reducible refine(am.c kj31 z5 2 z6 _ Y0.out).mono ?_
     rintro e N6 ⟨rfl,hb⟩;have HS0_:=(hb.cell (World.block_lt_of_cell? _ _ (hHeld.1))).trans (hHeld.1);have HS1_:=(hb.cell (World.block_lt_of_cell? _ _ (hHeld.2))).trans (hHeld.2);refine⟨_,rfl,?_⟩;replace g5:=a0_ (Kd.R_below (kR_ g5.out) hb);replace HB:=a0_ (aa ay hb)
     (try clear hb)
     (try clear hb2)
     (try clear hk)
     (try clear hi)
     refine hK.out _ _ (c1_ HS0_ (e1_ HS1_)).out (fun hHeld=>?_);clear hK K
     refine cU ?_
     refine dg 8 (some 85) (fun K hK=>?_)
     refine dm Tryz.func120 (by kernel_rfl) rfl #[.string (bn ByteArray.empty g1 1)] (by rfl) rfl rfl cS ?_
     with_reducible refine(bh.c kj31 (bn ByteArray.empty g1 1) z7 _ Y1.out).mono ?_
     rintro e N7 ⟨rfl,hb⟩;have HS0_:=(hb.cell (World.block_lt_of_cell? _ _ (hHeld.1))).trans (hHeld.1);have HS1_:=(hb.cell (World.block_lt_of_cell? _ _ (hHeld.2))).trans (hHeld.2);refine⟨_,rfl,?_⟩;replace g5:=a0_ (Kd.R_below (kR_ g5.out) hb);replace HB:=a0_ (aa ay hb)
     (try clear hb)
     (try clear hb2)
     (try clear hk)
     (try clear hi)
     refine hK.out _ _ (c1_ HS0_ (e1_ HS1_)).out (fun hHeld=>?_);clear hK K
     refine cU ?_
     refine p_ 9 86 ?_
     refine p_ 10 4 ?_
     refine p_ 11 5 ?_
     refine dZ (db HT_.out (by kernel_rfl)) ?_
     try go_wp2
     go_ret2;exact⟨rr_,ay⟩
mutual
def aK.j0: Nat→List (S45)→Int→List Int→Int→Int→Option ((List (S45))×Int×Int)
 | 0,_,_,_,_,_=>none
 | k+1,x3,x4,g0,g1,g2=>aK.l0 k x3 x4 g0 g1 g2
def aK.l0: Nat→List (S45)→Int→List Int→Int→Int→Option ((List (S45))×Int×Int)
 | 0,_,_,_,_,_=>none
 | k+1,x3,x4,g2,g3,g4=>if x4>0 then((bf.f k g2 g3 g4).bind fun g0=>((bU.f g2 g0.2.2.2.2.1 g0.2.2.2.2.2 6).bind fun g1=>(if g1.1=true then(if x3.length<2932031007402 then(aK.l0 k (x3 ++ [(⟨g0.1,g0.2.1,g0.2.2.1,g0.2.2.2.1⟩:S45)]) (wrap64 (x4-1)) g2 g1.2.1 g1.2.2)else(none))else(if x3.length<2932031007402 then(aK.l0 k (x3 ++ [(⟨g0.1,g0.2.1,60,g0.2.2.2.1⟩:S45)]) (wrap64 (x4-1)) g2 g1.2.1 g1.2.2)else(none)))))else(some (x3,g3,g4))
end
def aK.f(k:Nat)(s0_0:List Int)(s0_1:Int)(s0_2:Int): Option ((List (S45))×Int×Int):=(aM.f s0_0 s0_1 s0_2 9).bind fun g1=>((bU.f s0_0 g1.2.1 g1.2.2 30).bind fun g0=>(if g0.1=true then(aK.j0 k ([]:List (S45)) 61 s0_0 g0.2.1 g0.2.2)else(aK.j0 k ([]:List (S45)) g1.1 s0_0 g0.2.1 g0.2.2)))
theorem aK.c(k:Nat)(g:Nat)(s0_0:List Int)(s0_1:Int)(s0_2:Int)(r1:List (S45))(r2:Int)(r3:Int)(w0 w:World)(hI:ak w0 w g s0_0 s0_1 s0_2)(hB:Below w0.heap.size w0 w)(h:aK.f k s0_0 s0_1 s0_2=some (r1,r2,r3)):
 Calls Tryz.prog 109 #[.pointer (some ⟨g,0,none⟩)] w fun e w'=> ∃ v0_:Value,e = .returned (v0_)∧Kd.R k45 45 w' w.heap.size (fun _=>True) v0_ r1∧ak w0 w' g s0_0 r2 r3∧Below w0.heap.size w0 w'∧aJ w w' g none:=by
 have hu45:=Tryz.underlying45;have HI0:=a0_ hI;have HK:=a0_ (aJ.refl w g none);have HL:=a0_ hB.size;clear hI;have HW0:=a0_ hB.size;have HB:=a0_ hB;clear hB;have H:=h;clear h;unfold aK.f at H;obtain⟨⟨j8,j9,y0⟩,A2,H⟩:=ob_ H;obtain⟨⟨y1,j4,j5⟩,A3,H⟩:=ob_ H;have HC4:=a0_ H;clear H;go_enter Tryz.func109,Tryz.ntmps109;go_upto_if 9 with(first|((with_reducible refine gt_ 111 rfl ?_);refine gs_ 7 Tryz.func111 #[.pointer (some ⟨g,0,none⟩),.int .i64 9] ?_;(with_reducible refine(aM.c g s0_0 s0_1 s0_2 9 j8 j9 y0 w0 _ ?side1 ?side2 A2.out).mono ?_);(case side1=>exact bg);(case side2=>exact ca);rintro e w5 ⟨rfl,hi,hb,hk⟩;refine⟨_,rfl,?_⟩;replace HK:=a0_ (kt_ HK hk (.inl rfl));replace HB:=a0_ (hb);replace HI0:=a0_ (hi);clear hb hk hi)|((with_reducible refine gt_ 99 rfl ?_);refine gs_ 9 Tryz.func99 #[.pointer (some ⟨g,0,none⟩),.int .i64 30] ?_;(with_reducible refine(bU.c g s0_0 j9 y0 30 y1 j4 j5 w0 _ ?side1 ?side2 A3.out).mono ?_);(case side1=>exact bg);(case side2=>exact ca);rintro e w6 ⟨rfl,hi,hb,hk⟩;refine⟨_,rfl,?_⟩;replace HK:=a0_ (kt_ HK hk (.inl rfl));replace HB:=a0_ (hb);replace HI0:=a0_ (hi);clear hb hk hi))
 (try simp only[Act.put,List.setIfInBounds_toArray,List.set_cons_zero,List.set_cons_succ])
 go_cut [4] (fun v4 wc=> ∃ (kq:Nat) (x4_3:Int),v4 = .int .i64 x4_3∧ab (aK.j0 kq ([]:List (S45)) x4_3 s0_0 j4 j5=some (r1,r2,r3))∧ab (kq≤k)∧ab (Kd.R k45 45 wc w.heap.size (fun _=>True) (.slice none 0 0) ([]:List (S45)))∧ab (ak w0 wc g s0_0 j4 j5)∧ab (aJ w wc g none)∧ab (Below w0.heap.size w0 wc))
 case first=>
  have H:=HC4.out;clear HC4
  by_cases c7:y1=true
  case pos=>
   subst c7;rw[if_pos rfl]at H;have H':=a0_ H;clear H;go_wp2;go_meet
   case rel=>exact⟨_,(61),rs_,H',⟨by first|omega|exact Nat.le_refl _⟩,⟨by first|exact Kd.R_nil _ _ _ _ _|exact Kd.N_nil _ _ _ _ _|exact Kd.V_nil _ _ _ _ _|exact Kd.Q_nil _ _ _ _ _|exact Kd.S_nil _ _ _ _ _⟩,⟨bg⟩,⟨kq_⟩,⟨ca⟩⟩
  replace c7:=Bool.eq_false_iff.mpr c7;subst c7;rw[if_neg ff_]at H;have H':=a0_ H;clear H;go_wp2;go_meet
  case rel=>exact⟨_,(j8),rs_,H',⟨by first|omega|exact Nat.le_refl _⟩,⟨by first|exact Kd.R_nil _ _ _ _ _|exact Kd.N_nil _ _ _ _ _|exact Kd.V_nil _ _ _ _ _|exact Kd.Q_nil _ _ _ _ _|exact Kd.S_nil _ _ _ _ _⟩,⟨bg⟩,⟨kq_⟩,⟨ca⟩⟩
 case rest=>
  clear HC4;obtain⟨kq,x4_3,rfl,HA,HJ3,HO_3,HI0,HK,HB⟩:=hcut
  cases kq with
  | zero=>exact absurd HA.out (by simp[aK.j0])
  | succ kj3=>
   have H:=HA.out;clear HA;simp only[aK.j0]at H;have H':=a0_ H;clear H;go_wp2;go_loopg [3,4] kj3 (fun kq v3 v4 w'=> ∃ (x3_2:List (S45)) (x4_2:Int) (g6:Int) (g7:Int),v4 = .int .i64 x4_2∧ab (aK.l0 kq x3_2 x4_2 s0_0 g6 g7=some (r1,r2,r3))∧ab (kq≤kj3)∧ab (Kd.R k45 45 w' w.heap.size (fun _=>True) v3 x3_2)∧ab (ak w0 w' g s0_0 g6 g7)∧ab (aJ w w' g none)∧ab (Below w0.heap.size w0 w'))
   case atStart=>exact⟨(([]:List (S45))),(x4_3),(j4),(j5),rs_,H',⟨Nat.le_refl _⟩,⟨kR_ HO_3.out⟩,⟨bg⟩,⟨kq_⟩,⟨ca⟩⟩
   case round=>
    clear H'
    try clear c1
    try clear p2
    try clear c7
    try clear p2
    obtain⟨x3_2,x4_2,g6,g7,rfl,HA,HK2,HO_3,HI0,HK,HB⟩:=hrel
    cases gk with
    | zero=>exact absurd HA.out (by simp[aK.l0])
    | succ k2=>
     have H:=HA.out;clear HA;simp only[aK.l0]at H
     by_cases c8:x4_2>0
     case neg=>
      rw[if_neg c8]at H;have c8b0:=decide_eq_false c8;clear c8;simp only[Option.some.injEq,Prod.mk.injEq]at H;obtain⟨rfl,rfl,rfl⟩:=H;go_wp2;go_ret;exact⟨_,rr_,kR_ HO_3.out,bg,ca,kq_⟩
     rw[if_pos c8]at H;have c8b0:=decide_eq_true c8;clear c8;obtain⟨⟨g1,g2,g5,g3,g8,g9⟩,A9,H⟩:=ob_ H;obtain⟨⟨b1,j2,j3⟩,b6,H⟩:=ob_ H
     by_cases y2:b1=true
     case pos=>
      subst y2;rw[if_pos rfl]at H
      by_cases y3:x3_2.length<2932031007402
      case neg=>
       rw[if_neg y3]at H;exact absurd H (by simp)
      rw[if_pos y3]at H;have b2:=a0_ y3;clear y3;obtain⟨b3,j6⟩:∃ y_:List (S45),y_=(x3_2 ++ [(⟨g1,g2,g5,g3⟩:S45)]):=⟨_,rfl⟩;rw[← j6]at H;have y5:=a0_ j6;clear j6;have H':=a0_ H;clear H;go_wp2_with (first|((with_reducible refine gt_ 97 rfl ?_);refine gs_ 15 Tryz.func97 #[.pointer (some ⟨g,0,none⟩)] ?_;(with_reducible refine(bf.c k2 g s0_0 g6 g7 g1 g2 g5 g3 g8 g9 w0 _ ?side1 ?side2 A9.out).mono ?_);(case side1=>exact bg);(case side2=>exact ca);rintro e d5 ⟨rfl,hi,hb,hk⟩;refine⟨_,rfl,?_⟩;replace HO_3:=a0_ (Kd.R_mono (Kd.R_keep (ak.apart (show ak w0 _ g s0_0 g6 g7 from bg) (kR_ HO_3.out) (by decide)) hk (fun _ h=>h.2)) (fun _ h=>h.1));replace HK:=a0_ (kt_ HK hk (.inl rfl));replace HB:=a0_ (hb);replace HI0:=a0_ (hi);clear hb hk hi)|((with_reducible refine ax (N:=5) rfl ?_);refine cm 5 #[.string (⟨#[]⟩:ByteArray),.int .i64 0,.int .i64 0,.string (⟨#[]⟩:ByteArray)] 45 (fun g0 hg d6 hbox hb=>?_);replace HO_3:=a0_ (Kd.R_below (Kd.R_elderB (kR_ HO_3.out) g0 (Nat.le_of_eq hg.symm)) hb);replace HB:=a0_ (aa ca hb);have g4:=a0_ (hbox);have y6:=a0_ ((by rw[hg];exact(cJ (w:=w) (g:=g) (row:=none) kq_):w.heap.size≤g0));have y7:=a0_ ((Nat.le_trans HW0.out (by rw[hg];exact(cJ (w:=w) (g:=g) (row:=none) kq_):w.heap.size≤g0):w0.heap.size≤g0));replace HK:=a0_ (kt_ HK (aJ.of_below hb g none) (.inl rfl));have NB0_1195:=a0_ ((by rw[hg];exact Nat.ne_of_lt (ak.lt (show ak w0 _ g s0_0 g8 g9 from bg)):g≠g0));have j1:=a0_ ((by rw[hg];exact Nat.ne_of_gt (ak.lt (show ak w0 _ g s0_0 g8 g9 from bg)):g0≠g));replace HI0:=a0_ (ak.below bg hb);clear hb hbox hg;have b7:=j1.out;have b8:=NB0_1195.out;obtain⟨_,_,_,_,_,_,_,_⟩:=cY g4.out)|((with_reducible refine gt_ 99 rfl ?_);refine gs_ 17 Tryz.func99 #[.pointer (some ⟨g,0,none⟩),.int .i64 6] ?_;(with_reducible refine(bU.c g s0_0 g8 g9 6 true j2 j3 w0 _ ?side1 ?side2 b6.out).mono ?_);(case side1=>exact bg);(case side2=>exact ca);rintro e d7 ⟨rfl,hi,hb,hk⟩;refine⟨_,rfl,?_⟩;replace HO_3:=a0_ (Kd.R_mono (Kd.R_keep (ak.apart (show ak w0 _ g s0_0 g8 g9 from bg) (kR_ (Kd.R_mono (fX g0 (Kd.R_mono HO_3.out (fun k_ hk=>(⟨hk,hk.2⟩:_∧k_≠g0))) (fun _ hk=>hk.2) (.string g1) (.int .i64 g2) (.int .i64 g5) (.string g3)) (fun _ h_=>h_.1))) (by decide)) hk (fun _ h=>h.2)) (fun _ h=>h.1));replace g4:=a0_ (aJ.blk hk (g':=g0) (o:=.cells #[.string g1,.int .i64 g2,.int .i64 g5,.string g3] 45 (0,0)) (fl g4.out) j1.out (by simp));replace HK:=a0_ (kt_ HK hk (.inl rfl));replace HB:=a0_ (hb);replace HI0:=a0_ (hi);clear hb hk hi;obtain⟨_,_,_,_,_,_,_,_⟩:=cY g4.out)|((with_reducible refine bz (b:=.append) (xs:=#[.tmp 20,.tmp 22]) rfl ?_);at_builtin;refine Kd.R_append k45 w.heap.size rfl (.tmp 20) (.tmp 22) 27 45 (.agg #[(.string ⟨#[]⟩),(.int .i64 0),(.int .i64 0),(.string ⟨#[]⟩)]) 48 rfl Tryz.underlying27 dz rfl (by decide) (by omega) u3 x3_2 (⟨g1,g2,g5,g3⟩:S45) [.string g1,.int .i64 g2,.int .i64 g5,.string g3] (fun k_=>k_≠g0) (fun _=>False) rfl rfl ?aP (fun _ hk=>hk.elim) ?aF ?aO (Below.refl _ _) ?aS ?aL ?_;(case aP=>exact jC _ _ _ (⟨g1,g2,g5,g3⟩:S45));(case aF=>exact(fun k_ hk=>Kd.freshB (g:=g0) (o:=.cells #[.string g1,.int .i64 g2,.int .i64 g5,.string g3] 45 (0,0)) (kB_ g4.out) k_ hk));(case aO=>exact(kR_ (Kd.R_mono HO_3.out (fun _ hk=>hk.2))));(case aS=>exact(cJ (w:=w) (g:=g) (row:=none) kq_));(case aL=>have:=b2.out;omega);intro b9 d8 ho hb hg hat;rw[← y5.out]at ho;replace HI0:=a0_ (ak.grown (show ak w0 _ g s0_0 j2 j3 from bg) hg (ak.own_ne HI0.out HO_3.out (by decide)));replace g4:=a0_ (cp (g:=g0) (o:=.cells #[.string g1,.int .i64 g2,.int .i64 g5,.string g3] 45 (0,0)) (kB_ g4.out) hg (Kd.R_away HO_3.out (fun _ hk=>hk.2)));replace HB:=a0_ (iL ca HL.out hb);replace HK:=a0_ (kt_ HK (aJ.of_grown hg g) (Kd.R_base2 HO_3.out));have y8:=a0_ (ho);clear HO_3;clear ho hb hg hat));go_roundg k2
      case measure=>have:=HJ3.out;have:=HK2.out;omega
      case rel=>exact⟨(b3),(wrap64 (x4_2-1)),(j2),(j3),rs_,H',jm_ HJ3 HK2,⟨kR_ (Kd.R_mono y8.out (fun _ hk=>trivial))⟩,⟨bg⟩,⟨kq_⟩,⟨ca⟩⟩
     replace y2:=Bool.eq_false_iff.mpr y2;subst y2;rw[if_neg ff_]at H
     by_cases y4:x3_2.length<2932031007402
     case neg=>
      rw[if_neg y4]at H;exact absurd H (by simp)
     rw[if_pos y4]at H;have b4:=a0_ y4;clear y4;obtain⟨b5,j7⟩:∃ y_:List (S45),y_=(x3_2 ++ [(⟨g1,g2,60,g3⟩:S45)]):=⟨_,rfl⟩;rw[← j7]at H;have y9:=a0_ j7;clear j7;have H':=a0_ H;clear H;go_wp2_with (first|((with_reducible refine gt_ 97 rfl ?_);refine gs_ 15 Tryz.func97 #[.pointer (some ⟨g,0,none⟩)] ?_;(with_reducible refine(bf.c k2 g s0_0 g6 g7 g1 g2 g5 g3 g8 g9 w0 _ ?side1 ?side2 A9.out).mono ?_);(case side1=>exact bg);(case side2=>exact ca);rintro e d9 ⟨rfl,hi,hb,hk⟩;refine⟨_,rfl,?_⟩;replace HO_3:=a0_ (Kd.R_mono (Kd.R_keep (ak.apart (show ak w0 _ g s0_0 g6 g7 from bg) (kR_ HO_3.out) (by decide)) hk (fun _ h=>h.2)) (fun _ h=>h.1));replace HK:=a0_ (kt_ HK hk (.inl rfl));replace HB:=a0_ (hb);replace HI0:=a0_ (hi);clear hb hk hi)|((with_reducible refine ax (N:=5) rfl ?_);refine cm 5 #[.string (⟨#[]⟩:ByteArray),.int .i64 0,.int .i64 0,.string (⟨#[]⟩:ByteArray)] 45 (fun g0 hg z0 hbox hb=>?_);replace HO_3:=a0_ (Kd.R_below (Kd.R_elderB (kR_ HO_3.out) g0 (Nat.le_of_eq hg.symm)) hb);replace HB:=a0_ (aa ca hb);have g4:=a0_ (hbox);have y6:=a0_ ((by rw[hg];exact(cJ (w:=w) (g:=g) (row:=none) kq_):w.heap.size≤g0));have y7:=a0_ ((Nat.le_trans HW0.out (by rw[hg];exact(cJ (w:=w) (g:=g) (row:=none) kq_):w.heap.size≤g0):w0.heap.size≤g0));replace HK:=a0_ (kt_ HK (aJ.of_below hb g none) (.inl rfl));have NB0_1195:=a0_ ((by rw[hg];exact Nat.ne_of_lt (ak.lt (show ak w0 _ g s0_0 g8 g9 from bg)):g≠g0));have j1:=a0_ ((by rw[hg];exact Nat.ne_of_gt (ak.lt (show ak w0 _ g s0_0 g8 g9 from bg)):g0≠g));replace HI0:=a0_ (ak.below bg hb);clear hb hbox hg;have d0:=j1.out;have d3:=NB0_1195.out;obtain⟨_,_,_,_,_,_,_,_⟩:=cY g4.out)|((with_reducible refine gt_ 99 rfl ?_);refine gs_ 17 Tryz.func99 #[.pointer (some ⟨g,0,none⟩),.int .i64 6] ?_;(with_reducible refine(bU.c g s0_0 g8 g9 6 false j2 j3 w0 _ ?side1 ?side2 b6.out).mono ?_);(case side1=>exact bg);(case side2=>exact ca);rintro e z1 ⟨rfl,hi,hb,hk⟩;refine⟨_,rfl,?_⟩;replace HO_3:=a0_ (Kd.R_mono (Kd.R_keep (ak.apart (show ak w0 _ g s0_0 g8 g9 from bg) (kR_ (Kd.R_mono (fX g0 (Kd.R_mono HO_3.out (fun k_ hk=>(⟨hk,hk.2⟩:_∧k_≠g0))) (fun _ hk=>hk.2) (.string g1) (.int .i64 g2) (.int .i64 g5) (.string g3)) (fun _ h_=>h_.1))) (by decide)) hk (fun _ h=>h.2)) (fun _ h=>h.1));replace g4:=a0_ (aJ.blk hk (g':=g0) (o:=.cells #[.string g1,.int .i64 g2,.int .i64 g5,.string g3] 45 (0,0)) (fl g4.out) j1.out (by simp));replace HK:=a0_ (kt_ HK hk (.inl rfl));replace HB:=a0_ (hb);replace HI0:=a0_ (hi);clear hb hk hi;obtain⟨_,_,_,_,_,_,_,_⟩:=cY g4.out)|((with_reducible refine bz (b:=.append) (xs:=#[.tmp 20,.tmp 22]) rfl ?_);at_builtin;refine Kd.R_append k45 w.heap.size rfl (.tmp 20) (.tmp 22) 27 45 (.agg #[(.string ⟨#[]⟩),(.int .i64 0),(.int .i64 0),(.string ⟨#[]⟩)]) 48 rfl Tryz.underlying27 dz rfl (by decide) (by omega) u3 x3_2 (⟨g1,g2,60,g3⟩:S45) [.string g1,.int .i64 g2,.int .i64 60,.string g3] (fun k_=>k_≠g0) (fun _=>False) rfl (by first|(go_simp;done)|(go_simp;rfl)) ?aP (fun _ hk=>hk.elim) ?aF ?aO (Below.refl _ _) ?aS ?aL ?_;(case aP=>exact jC _ _ _ (⟨g1,g2,60,g3⟩:S45));(case aF=>exact(fun k_ hk=>Kd.freshB (g:=g0) (o:=.cells #[.string g1,.int .i64 g2,.int .i64 60,.string g3] 45 (0,0)) (by(with_reducible repeat(first|refine aI ?_ _|refine az ?_|refine aE ?_ _));refine bE (cs:=#[.string g1,.int .i64 g2,.int .i64 g5,.string g3]) ?_ 2 _ rfl;(with_reducible repeat(first|refine aI ?_ _|refine az ?_|refine aE ?_ _));exact g4.out) k_ hk));(case aO=>exact(kR_ (Kd.R_mono (Kd.R_far (p:=⟨g0,2,none⟩) (Kd.R_mono HO_3.out (fun k_ hk=>(⟨hk,hk.2⟩:_∧k_≠g0))) (fun _ hk=>hk.2) (.int .i64 60)) (fun _ hk=>hk.1.2))));(case aS=>exact(cJ (w:=w) (g:=g) (row:=none) kq_));(case aL=>have:=b4.out;omega);intro d4 z2 ho hb hg hat;rw[← y9.out]at ho;replace HI0:=a0_ (ak.grown (show ak w0 _ g s0_0 j2 j3 from bg) hg (ak.own_ne HI0.out HO_3.out (by decide)));replace g4:=a0_ (cp (g:=g0) (o:=.cells #[.string g1,.int .i64 g2,.int .i64 60,.string g3] 45 (0,0)) (by(with_reducible repeat(first|refine aI ?_ _|refine az ?_|refine aE ?_ _));refine bE (cs:=#[.string g1,.int .i64 g2,.int .i64 g5,.string g3]) ?_ 2 _ rfl;(with_reducible repeat(first|refine aI ?_ _|refine az ?_|refine aE ?_ _));exact g4.out) hg (Kd.R_away HO_3.out (fun _ hk=>hk.2)));replace HB:=a0_ (iL ca HL.out hb);replace HK:=a0_ (kt_ HK (aJ.of_grown hg g) (Kd.R_base2 HO_3.out));have b0:=a0_ (ho);clear HO_3;clear ho hb hg hat));go_roundg k2
     case measure=>have:=HJ3.out;have:=HK2.out;omega
     case rel=>exact⟨(b5),(wrap64 (x4_2-1)),(j2),(j3),rs_,H',jm_ HJ3 HK2,⟨kR_ (Kd.R_mono b0.out (fun _ hk=>trivial))⟩,⟨bg⟩,⟨kq_⟩,⟨ca⟩⟩
end Go.Proofs.YtiegkjimpclmaaaGreatDoor.P
namespace Go.Proofs.YtiegkjimpclmaaaGreatDoor.P
theorem mA: Builder.Extra Tryz.prog Tryz.lays156_ren where
 sizeBuilder:=by kernel_rfl
 liesBuilder:=by kernel_rfl
 t5:=Tryz.underlying5
 a5:=Tryz.isAgg5
 z5:=Tryz.sizeOf5
 v5:=Tryz.zeroValue5
 infoByte:=by kernel_rfl
 cellsByte:=by kernel_rfl
 sizeByte:=by kernel_rfl
 neB5:=by decide
def dF(l:List ByteArray): List UInt8:=Lib.join (l.map (·.data.toList)) [46]
theorem ql{T:Nat}{w:World}{b:Nat}{ok:Nat→Prop}{A:Option Addr}{n c:Nat}{xs:List ByteArray}(h:Kd.R Kd.string T w b ok (.slice A n c) xs): ∀ ad,A=some ad→ad.spot=none:=by
 intro ad e;obtain⟨cs,hown,_⟩:=h.2
 rcases hown.2 with⟨h1,_⟩|⟨g,cap,cur,h1,_⟩
 · injection h1 with h2
   rw[e]at h2;cases h2
 · injection h1 with h2
   rw[e]at h2
   injection h2 with h2
   rw[h2]
theorem mX(A:Option Addr)(c:Nat)(xs:List ByteArray)(w:World)(hr:Kd.C Kd.string w A xs.length xs)(hc:xs.length≤c)(hs:∀ ad,A=some ad→ad.spot=none)
 (hl:(dF xs).length≤140737488355328) (hn:xs.length≤8) :
 Calls Tryz.prog 57 #[.slice A xs.length c,.string (⟨#[46]⟩:ByteArray)] w fun e w'=>e = .returned (.string (mkB (dF xs)))∧Below w.heap.size w w':=by
 cases xs with
 | nil=>exact(Any.strings_Join_none Tryz.lays156 mA A c _ w).mono fun e w' ⟨he,hw⟩=>⟨he,hw▸Below.refl _ _⟩
 | cons x r=>
  obtain⟨ad,rfl,hx⟩:=Kd.at_string hr 0 (by omega) (by simp);have hsp:=hs ad rfl;obtain⟨bk,o,sp⟩:=ad;simp only at hsp;subst hsp
  refine Any.strings_Join Tryz.lays156 mA bk o c (x::r) (⟨#[46]⟩:ByteArray) w ?_ (World.block_lt_of_cell? _ _ hx) (by omega) hc hl
  intro j y hj;have hjl:j<(x::r).length:=(List.getElem?_eq_some_iff.1 hj).1;obtain⟨ad,e0,hx⟩:=Kd.at_string hr (j:Int) (by omega) (by omega);cases e0;rw[Int.toNat_natCast]at hx
  have hy:bn ByteArray.empty (x::r) (j:Int)=y:=by
   unfold bn;rw[Int.toNat_natCast,List.getD_eq_getElem?_getD,hj];rfl
  rw[hy]at hx
  by_cases hj0:j=0
  · subst hj0
    simpa [Addr.add]using hx
  ·simpa [Addr.add,hj0]using hx
theorem oW(l:List ByteArray)(h:∀ x∈l,x.size≤20): (dF l).length≤l.length*21:=by
 unfold dF
 cases l with
 | nil=>simp[Lib.join_nil]
 | cons x r=>
  rw[List.map_cons,Lib.join_cons,List.length_append];have h1:=h x List.mem_cons_self
  have h2:∀ m:List ByteArray,(∀ y∈m,y.size≤20)→(Lib.joinTail [46] (m.map (·.data.toList))).length≤m.length*21:=by
   intro m
   induction m with
   | nil=>intro _;simp[Lib.joinTail]
   | cons y m ih=>
    intro hy;have:=hy y List.mem_cons_self
    have:=ih fun z hz=>hy z (List.mem_cons_of_mem _ hz)
    simp[Lib.joinTail]at this ⊢;rw[aU]at *;simp at *;omega
  have h3:=h2 r fun y hy=>h y (List.mem_cons_of_mem _ hy)
  rw[aU]at h1;simp only[List.length_cons];omega
theorem fM{l:List UInt8}(h:bH l=true): l.length≤20:=by
 unfold bH at h;simp only[Bool.or_eq_true,Bool.and_eq_true,decide_eq_true_eq,beq_iff_eq]at h
 rcases h with rfl|h
 ·simp
 ·exact h.1.2
def gi(l:List ByteArray): ByteArray×Bool:=
 if decide (l.length≤8)&&l.all (fun x=>bH x.data.toList)then(if cO (dF l)=true then(mkB (dF l),true)else((⟨#[]⟩:ByteArray),false))else((⟨#[]⟩:ByteArray),false)
def eI.f(l:List ByteArray): Option (ByteArray×Bool):=some (gi l)
theorem lH(x:ByteArray)(W:World): Calls Tryz.prog 207 #[.string x] W fun e W'=>e = .returned (.bool (!bH x.data.toList))∧Below W.heap.size W W':=
 eO.c x _ W (by unfold eO.f;rw[jQ];rfl)
set_option maxHeartbeats 4000000 in
theorem eI.c(A0:Option Addr)(c0:Nat)(l0:List ByteArray)(r1:ByteArray)(r2:Bool)(w:World)(hr0:Kd.C Kd.string w A0 l0.length l0)(hc0:l0.length≤c0)(h:eI.f l0=some (r1,r2))
 (hs:∀ ad,A0=some ad→ad.spot=none:=by first|exact ql (ab.out (by assumption))|exact ql (by assumption)) :
 Calls Tryz.prog 175 #[.slice A0 l0.length c0] w fun e w'=>e = .returned (.tuple #[.string r1,.bool r2])∧Below w.heap.size w w':=by
 have HR:ab (gi l0=(r1,r2)):=⟨Option.some.inj h⟩;clear h;unfold gi at HR
 by_cases h8:l0.length≤8
 · have eg : ∀ args w, (callFunc 207 args).run Tryz.prog w = .ok (.enter 207 args) w := enters_of Tryz.func207 (by kernel_rfl) rfl
   have cc:=iM A0 c0 l0 207 #[] (fun x=> !bH x.data.toList) w hr0 eg (fun x _ W' _=>lH x W')
   have hany:l0.any (fun x=> !bH x.data.toList) = !l0.all (fun x=>bH x.data.toList):=by rw[List.not_all_eq_any_not]
   rw[hany]at cc;rw[decide_eq_true h8,Bool.true_and]at HR;have h8a:decide (8<l0.length)=false:=decide_eq_false (by omega);have h8b:decide ((8:Int)<(l0.length:Int))=false:=decide_eq_false (by omega)
   have hsz:=ab.mk (fun(ha:l0.all (fun x=>bH x.data.toList)=true)=>oW l0 (fun x hx=>by
    rw[aU];exact fM (List.all_eq_true.1 ha x hx)))
   cases ha:l0.all (fun x=>bH x.data.toList)with
   | false=>
    rw[ha]at cc;rw[ha,if_neg (by simp)]at HR;obtain⟨rfl,rfl⟩:=Prod.mk.inj HR.out;clear HR hsz ha hany;go_enter Tryz.func175,Tryz.ntmps175;go_wp2_with (first|(go_at_call 145;refine cc.mono ?_;rintro e w1 ⟨rfl,hb⟩));go_ret2;exact⟨rfl,hb⟩
   | true=>
    rw[ha]at cc;rw[ha,if_pos rfl]at HR;have hlen:=hsz.out ha
    have hjs:(dF l0).length<4294967281:=by omega
    clear hsz ha hany;have hj:=ab.mk (fun W (hb:Below w.heap.size w W)=>mX A0 c0 l0 W (Kd.C_below hr0 hb) hc0 hs (by omega) h8)
    have gc:=fun W=>cg.c (mkB (dF l0)) _ W rfl
    rw[cn]at gc;clear hlen
    cases hg:cO (dF l0)with
    | true=>
     rw[hg]at gc;rw[hg,if_pos rfl]at HR;obtain⟨rfl,rfl⟩:=Prod.mk.inj HR.out;clear HR hg;go_enter Tryz.func175,Tryz.ntmps175;go_wp2_with (first|(go_at_call 145;refine cc.mono ?_;rintro e w1 ⟨rfl,hb⟩)|(go_at_call 57;refine(hj.out _ hb).mono ?_;rintro e w2 ⟨rfl,hb2⟩)|(go_at_call 83;refine(gc _).mono ?_;rintro e w3 ⟨rfl,hb3⟩));go_ret2;exact⟨rfl,bj (bj hb hb.size hb2) (bj hb hb.size hb2).size hb3⟩
    | false=>
     rw[hg]at gc;rw[hg,if_neg (by simp)]at HR;obtain⟨rfl,rfl⟩:=Prod.mk.inj HR.out;clear HR hg;go_enter Tryz.func175,Tryz.ntmps175;go_wp2_with (first|(go_at_call 145;refine cc.mono ?_;rintro e w1 ⟨rfl,hb⟩)|(go_at_call 57;refine(hj.out _ hb).mono ?_;rintro e w2 ⟨rfl,hb2⟩)|(go_at_call 83;refine(gc _).mono ?_;rintro e w3 ⟨rfl,hb3⟩));go_ret2;exact⟨rfl,bj (bj hb hb.size hb2) (bj hb hb.size hb2).size hb3⟩
 · have h8a : decide (8 < l0.length) = true := decide_eq_true (by omega)
   have h8b:decide ((8:Int)<(l0.length:Int))=true:=decide_eq_true (by omega);rw[decide_eq_false h8,Bool.false_and,if_neg (by simp)]at HR;obtain⟨rfl,rfl⟩:=Prod.mk.inj HR.out;clear HR h8;go_enter Tryz.func175,Tryz.ntmps175;go_wp2;go_ret2;exact⟨rfl,Below.refl _ _⟩
end Go.Proofs.YtiegkjimpclmaaaGreatDoor.P
namespace Go.Proofs.YtiegkjimpclmaaaGreatDoor.Pure
open Go.Proofs.YtiegkjimpclmaaaGreatDoor.P
theorem d_{n:Nat}(h:n<4611686018427387904): wrap64 ((n:Int)+1)=((n+1:Nat):Int):=by unfold wrap64;omega
theorem eS(s:ByteArray)(i:Nat)(h:i<s.data.toList.length): bt s (i:Int)=((s.data.toList[i]'h).toNat:Int):=by
 unfold bt
 have h2:(i:Int).toNat<s.size:=by rw[aU];omega
 rw[dif_pos h2];rfl
theorem fE(s:ByteArray)(a b:Nat): s.extract a b=mkB ((s.data.toList.drop a).take (b-a)):=by
 apply fK;rw[cn];simp[ByteArray.data_extract]
theorem iE(s:ByteArray)(a:Nat): s.extract a s.size=mkB (s.data.toList.drop a):=by
 rw[fE,List.take_of_length_le (by rw[List.length_drop,aU];omega)]
theorem iv(s:ByteArray)(hs:s.size<1099511627776): ∀ (m i a:Nat) (acc:List ByteArray),i+m=s.size→a≤i→(∀ x∈(s.data.toList.drop a).take (i-a),x≠46)→acc.length≤a →
 aQ.l0 (m+1) s 46 acc (a:Int) (i:Int)=some (acc++(bC 46 (s.data.toList.drop a)).map mkB)
 | 0,i,a,acc,him,hai,hx,hacc=>by
  unfold aQ.l0;rw[if_neg (by omega),if_pos (by omega),if_pos (by omega),if_pos (by omega)];rw[List.take_of_length_le (by rw[List.length_drop,← aU];omega)]at hx;rw[el 46 _ hx,Int.toNat_natCast,iE];rfl
 | m+1,i,a,acc,him,hai,hx,hacc=>by
  have hi:i<s.data.toList.length:=by rw[← aU];omega
  unfold aQ.l0;rw[if_pos (by omega),if_pos (by omega),eS s i hi,d_ (by omega)]
  have hd:s.data.toList.drop a=(s.data.toList.drop a).take (i-a)++s.data.toList[i]::s.data.toList.drop (i+1):=by
   conv=>lhs;rw[← List.take_append_drop (i-a) (s.data.toList.drop a)]
   congr 1
   rw[List.drop_drop,show a+(i-a)=i by omega,List.drop_eq_getElem_cons hi]
  by_cases h:s.data.toList[i]=46
  · rw [if_pos (by rw [h]; rfl), if_pos (by omega), if_pos (by omega), if_pos (by omega), if_pos (by omega), Int.toNat_natCast, Int.toNat_natCast, fE]
    rw[iv s hs m (i+1) (i+1) _ (by omega) (by omega) (by simp) (by simp;omega)]
    conv=>rhs;rw[hd,h,dM 46 _ _ hx]
    simp
  · rw [if_neg (by intro e; apply h; apply UInt8.toNat_inj.1; simpa using Int.ofNat.inj e)]
    refine iv s hs m (i+1) a acc (by omega) (by omega) ?_ hacc
    intro x hm;rw[show i+1-a=(i-a)+1 by omega,List.take_add_one]at hm
    rcases List.mem_append.1 hm with hm|hm
    ·exact hx x hm
    · rw [List.getElem?_drop, show a + (i - a) = i by omega, List.getElem?_eq_getElem hi] at hm
      obtain rfl:x=s.data.toList[i]:=by simpa using hm
      exact h
theorem ks(s:ByteArray)(hs:s.size<1099511627776): Ev (fun k=>aQ.f k s 46) ((bC 46 s.data.toList).map mkB):=by
 refine Ev.of (fun k=>aQ.m _ _ _) (k:=s.size+1) ?_
 unfold aQ.f;have:=iv s hs s.size 0 0 [] (by omega) (by omega) (by simp) (by simp)
 simpa using this
theorem dA(n a b:Int): cj.f n a b=some (decide (a≤n∧n≤b)):=by
 unfold cj.f
 by_cases h:n≥a
 ·rw[if_pos h];congr 1;rw[decide_eq_decide];omega
 ·rw[if_neg h];congr 1;rw[eq_comm,decide_eq_false_iff_not];omega
theorem jR(s:ByteArray)(hs:s.size<1099511627776): ∀ (m i:Nat),i+m=s.size →
 bc.l0 (m+1) s (i:Int)=some ((s.data.toList.drop i).all eH&&decide (1≤s.data.toList.length∧s.data.toList.length≤20))
 | 0,i,him=>by
  unfold bc.l0;rw[if_neg (by omega),dA,List.drop_of_length_le (by rw[← aU];omega)];simp only[Option.bind_some,List.all_nil,Bool.true_and]
  congr 1
  rw[decide_eq_decide,← aU];omega
 | m+1,i,him=>by
  have hi:i<s.data.toList.length:=by rw[← aU];omega
  have ih:=jR s hs m (i+1) (by omega);unfold bc.l0;rw[if_pos (by omega),if_pos (by omega),d_ (by omega),ih,eS s i hi,List.drop_eq_getElem_cons hi,List.all_cons];generalize (List.drop (i+1) s.data.toList).all eH=rest;generalize decide (1≤s.data.toList.length∧s.data.toList.length≤20)=len;generalize s.data.toList[i]=b
  have hb:eH b=decide ((97≤(b.toNat:Int)∧(b.toNat:Int)≤122)∨(48≤(b.toNat:Int)∧(b.toNat:Int)≤57)∨(b.toNat:Int)=45∨(b.toNat:Int)=95):=by
   unfold eH;rw[Bool.eq_iff_iff]
   have h45:b=45↔(b.toNat:Int)=45:=by rw[← UInt8.toNat_inj];exact⟨fun h=>by rw[h];rfl,fun h=>Int.ofNat.inj h⟩
   have h95:b=95↔(b.toNat:Int)=95:=by rw[← UInt8.toNat_inj];exact⟨fun h=>by rw[h];rfl,fun h=>Int.ofNat.inj h⟩
   simp only[Bool.or_eq_true,decide_eq_true_eq,beq_iff_eq,h45,h95];omega
  rw[hb];generalize (b.toNat:Int)=v
  by_cases hv:(97≤v∧v≤122)∨(48≤v∧v≤57)∨v=45∨v=95
  · rw [decide_eq_true hv, Bool.true_and]
    repeat' split
    all_goals first|rfl|omega
  · rw [decide_eq_false hv, Bool.false_and, Bool.false_and]
    repeat' split
    all_goals first|rfl|omega
theorem pV(s:ByteArray)(hs:s.size<1099511627776): Ev (fun k=>bc.f k s) (bH s.data.toList):=by
 refine Ev.of (fun k=>bc.m _ _) (k:=s.size+1) ?_
 unfold bc.f bH;rw[Lib.toList_data]
 by_cases h:s.data.toList=[42]
 ·rw[if_pos h,h];rfl
 · rw [if_neg h, show (s.data.toList == [42]) = false from beq_eq_false_iff_ne.mpr h, Bool.false_or, Bool.and_comm]
   have:=jR s hs s.size 0 (by omega)
   simpa using this
def ie(s:ByteArray)(parts:List ByteArray)(i:Nat): List ByteArray×Bool:=
 if(parts.drop i).all (fun p=>bH p.data.toList)then(if s.size≤60 then(parts,decide (parts.length≤8))else(parts,false))else([],false)
theorem gF(s:ByteArray)(parts:List ByteArray)(hp:∀ p∈parts,p.size<1099511627776)(hl:parts.length<1099511627776): ∀ (m i:Nat),i+m=parts.length →
 Ev (fun k=>aw.l0 k s parts parts (parts.length:Int) (i:Int)) (ie s parts i)
 | 0,i,him=>by
  refine Ev.step (f:=fun k=>some (ie s parts i)) (fun k=>?_) (Ev.now _);show aw.l0 (k+1) s parts parts (parts.length:Int) (i:Int)=_;unfold aw.l0 ie;rw[if_neg (by omega),List.drop_of_length_le (by omega)];simp only[List.all_nil,if_true]
  by_cases h:s.size≤60
  · rw [if_pos (by omega), if_pos h]
    congr 2
    rw[decide_eq_decide];omega
  ·rw[if_neg (by omega),if_neg h]
 | m+1,i,him=>by
  have hi:i<parts.length:=by omega
  have ih:=gF s parts hp hl m (i+1) (by omega)
  have hrd:bn ByteArray.empty parts (i:Int)=parts[i]:=by
   unfold bn;rw[Int.toNat_natCast,List.getD_eq_getElem?_getD,List.getElem?_eq_getElem hi];rfl
  refine Ev.step (f:=fun k=>(bc.f k parts[i]).bind fun t=>if t=true then aw.l0 k s parts parts (parts.length:Int) ((i+1:Nat):Int)else some ([],false)) (fun k=>?_) ?_
  · show aw.l0 (k + 1) s parts parts (parts.length : Int) (i : Int) = _
    conv=>lhs;unfold aw.l0
    rw[if_pos (by omega),if_pos (by omega),if_pos (by omega),hrd,d_ (by omega)]
  · refine Ev.bind (pV _ (hp _ (List.getElem_mem hi))) ?_
    have hd:ie s parts i=if bH parts[i].data.toList=true then ie s parts (i+1)else([],false):=by
     unfold ie;rw[List.drop_eq_getElem_cons hi,List.all_cons]
     cases bH parts[i].data.toList<;>simp
    rw[hd]
    by_cases h:bH parts[i].data.toList=true
    · simp only [if_pos h]
      exact ih
    · simp only [if_neg h]
      exact Ev.now _
theorem eU(c:UInt8)(l:List UInt8): (bC c l).length≤l.length+1:=by
 induction l with
 | nil=>simp[bC]
 | cons x xs ih=>
  unfold bC
  split
  ·simp;omega
  · split
    ·simp
    · rename_i e
      rw[e]at ih;simp at ih ⊢;omega
theorem eY(c:UInt8)(l:List UInt8): ∀ p∈bC c l,p.length≤l.length:=by
 induction l with
 | nil=>simp[bC]
 | cons x xs ih=>
  unfold bC
  split
  · intro p hp
    rcases List.mem_cons.1 hp with rfl|hp
    ·simp
    ·have:=ih p hp;simp;omega
  · split
    ·simp
    · rename_i e
      rw[e]at ih;intro p hp
      rcases List.mem_cons.1 hp with rfl|hp
      ·have:=ih _ List.mem_cons_self;simp;omega
      ·have:=ih p (List.mem_cons_of_mem _ hp);simp;omega
theorem fH(s:ByteArray)(hs:s.size<549755813888): ∃ r,Ev (fun k=>aw.f k s) r∧r.2=cO s.data.toList∧(r.2=true→r.1=(bG s.data.toList).map mkB):=by
 by_cases h:s.data.toList=[]
 · refine ⟨([], true), ?_, ?_, ?_⟩
   · refine Ev.congr (fun k => ?_) (Ev.now _)
     unfold aw.f;rw[if_pos (by rw[Lib.toList_data];exact h)]
   ·rw[h];decide
   ·rw[h];intro _;rfl
 · refine ⟨ie s ((bC 46 s.data.toList).map mkB) 0, ?_, ?_, ?_⟩
   · refine Ev.congr (f := fun k => (aQ.f k s 46).bind fun t => aw.l0 k s t t (t.length : Int) 0) (fun k => ?_) (Ev.bind (ks s (by omega)) ?_)
     · show aw.f k s = _
       unfold aw.f;rw[if_neg (by rw[Lib.toList_data];exact h)]
     · have hlen : ((bC 46 s.data.toList).map mkB).length ≤ s.size + 1 := by rw [List.length_map, aU]; exact eU _ _
       refine gF s _ ?_ (by omega) _ 0 (Nat.zero_add _)
       intro p hp;obtain⟨q,hq,rfl⟩:=List.mem_map.1 hp;have:=eY 46 _ q hq;rw[cF];rw[← aU]at this;omega
   all_goals
    unfold ie
    try unfold cO
    rw[show bG s.data.toList=bC 46 s.data.toList by unfold bG;rw[if_neg h]];simp only[List.drop_zero,List.all_map,Function.comp_def,cn,List.length_map,← aU]
    by_cases h1:(bC 46 s.data.toList).all bH=true
    · simp only [show (bC 46 s.data.toList).all (fun p => bH p) = true from h1]
      by_cases h2:s.size≤60
      ·simp[h1,h2]
      ·simp[h1,h2]
    · simp only [show (bC 46 s.data.toList).all (fun p => bH p) = false from Bool.eq_false_iff.mpr h1]
      simp[h1]
theorem qL(s:ByteArray)(hs:s.size<549755813888): ∃ r,Ev (fun k=>aw.f k s) r∧r.2=cO s.data.toList:=by
 obtain⟨r,h1,h2,_⟩:=fH s hs;exact⟨r,h1,h2⟩
end Go.Proofs.YtiegkjimpclmaaaGreatDoor.Pure
namespace Go.Proofs.YtiegkjimpclmaaaGreatDoor.P
attribute [local go_sem] cG cD c_ cZ ci ch cE cH
def cf.f(k:Nat)(a0_0:ByteArray)(a0_1:Int)(a0_2:Int)(a0_3:ByteArray): Option (Bool):=(ag.f k a0_1 a0_3).bind fun g0=>(if g0.2=true then((dv.f k a0_0).bind fun g1=>(if g1=true then((cj.f a0_2 0 100000).bind fun g2=>(some g2))else(some false)))else(some false))
theorem cf.c(k:Nat)(a0_0:ByteArray)(a0_1:Int)(a0_2:Int)(a0_3:ByteArray)(r:Bool)(w:World)(h:cf.f k a0_0 a0_1 a0_2 a0_3=some r):
 Calls Tryz.prog 61 #[.agg #[.string a0_0,.int .i64 a0_1,.int .i64 a0_2,.string a0_3]] w fun e w'=>e = .returned (.bool r)∧Below w.heap.size w w':=by
 have hu45:=Tryz.underlying45;have HB:=a0_ (Below.refl w.heap.size w);have H:=h;clear h;unfold cf.f at H;obtain⟨⟨g3,g5⟩,A2,H⟩:=ob_ H
 by_cases c3:g5=true
 case neg=>
  replace c3:=Bool.eq_false_iff.mpr c3;subst c3;rw[if_neg ff_]at H;obtain rfl:=Option.some.inj H;go_enter Tryz.func61,Tryz.ntmps61;go_wp2_with (first|((with_reducible refine ax (N:=1) rfl ?_);refine cm 1 #[.string a0_0,.int .i64 a0_1,.int .i64 a0_2,.string a0_3] 45 (fun g1 hg g8 hbox hb=>?_);have g0:=a0_ (hbox);have g2:=a0_ (gw_ hg:w.heap.size≤g1);replace HB:=a0_ (aa ay hb);have g4:=g2;clear hb hbox hg;obtain⟨_,_,_,_,_,_,_,_⟩:=cY g0.out)|((with_reducible refine gt_ 55 rfl ?_);refine gs_ 10 Tryz.func55 #[.int .i64 a0_1,.string a0_3] ?_;(with_reducible refine(ag.c k a0_1 a0_3 g3 false _ A2.out).mono ?_);rintro e g9 ⟨rfl,hb⟩;refine⟨_,rfl,?_⟩;replace g0:=a0_ (bq g0 hb);replace HB:=a0_ (aa aD hb);clear hb));go_ret;exact⟨rr_,aD⟩
 subst c3;rw[if_pos rfl]at H;obtain⟨g6,A4,H⟩:=ob_ H
 by_cases c5:g6=true
 case neg=>
  replace c5:=Bool.eq_false_iff.mpr c5;subst c5;rw[if_neg ff_]at H;obtain rfl:=Option.some.inj H;go_enter Tryz.func61,Tryz.ntmps61;go_wp2_with (first|((with_reducible refine ax (N:=1) rfl ?_);refine cm 1 #[.string a0_0,.int .i64 a0_1,.int .i64 a0_2,.string a0_3] 45 (fun g1 hg j0 hbox hb=>?_);have g0:=a0_ (hbox);have g2:=a0_ (gw_ hg:w.heap.size≤g1);replace HB:=a0_ (aa ay hb);have g4:=g2;clear hb hbox hg;obtain⟨_,_,_,_,_,_,_,_⟩:=cY g0.out)|((with_reducible refine gt_ 55 rfl ?_);refine gs_ 10 Tryz.func55 #[.int .i64 a0_1,.string a0_3] ?_;(with_reducible refine(ag.c k a0_1 a0_3 g3 true _ A2.out).mono ?_);rintro e j1 ⟨rfl,hb⟩;refine⟨_,rfl,?_⟩;replace g0:=a0_ (bq g0 hb);replace HB:=a0_ (aa aD hb);clear hb;obtain⟨_,_,_,_,_,_,_,_⟩:=cY g0.out)|(go_at_call 127;(with_reducible refine(dv.c k a0_0 false _ A4.out).mono ?_);rintro e j2 ⟨rfl,hb⟩;replace g0:=a0_ (bq g0 hb);replace HB:=a0_ (aa aD hb);clear hb));go_ret;exact⟨rr_,aD⟩
 subst c5;rw[if_pos rfl]at H;obtain⟨g7,A6,H⟩:=ob_ H;obtain rfl:=Option.some.inj H;go_enter Tryz.func61,Tryz.ntmps61;go_wp2_with (first|((with_reducible refine ax (N:=1) rfl ?_);refine cm 1 #[.string a0_0,.int .i64 a0_1,.int .i64 a0_2,.string a0_3] 45 (fun g1 hg w7 hbox hb=>?_);have g0:=a0_ (hbox);have g2:=a0_ (gw_ hg:w.heap.size≤g1);replace HB:=a0_ (aa ay hb);have g4:=g2;clear hb hbox hg;obtain⟨_,_,_,_,_,_,_,_⟩:=cY g0.out)|((with_reducible refine gt_ 55 rfl ?_);refine gs_ 10 Tryz.func55 #[.int .i64 a0_1,.string a0_3] ?_;(with_reducible refine(ag.c k a0_1 a0_3 g3 true _ A2.out).mono ?_);rintro e w9 ⟨rfl,hb⟩;refine⟨_,rfl,?_⟩;replace g0:=a0_ (bq g0 hb);replace HB:=a0_ (aa aD hb);clear hb;obtain⟨_,_,_,_,_,_,_,_⟩:=cY g0.out)|(go_at_call 127;(with_reducible refine(dv.c k a0_0 true _ A4.out).mono ?_);rintro e j3 ⟨rfl,hb⟩;replace g0:=a0_ (bq g0 hb);replace HB:=a0_ (aa aD hb);clear hb;obtain⟨_,_,_,_,_,_,_,_⟩:=cY g0.out)|(go_at_call 102;(with_reducible refine(cj.c a0_2 0 100000 g7 _ A6.out).mono ?_);rintro e w' ⟨rfl,⟨nd,rfl⟩⟩));go_ret;exact⟨rr_,aD⟩
end Go.Proofs.YtiegkjimpclmaaaGreatDoor.P
namespace Go.Proofs.YtiegkjimpclmaaaGreatDoor.P
attribute [local go_sem] cG cD c_ cZ ci ch cE cH
attribute [local go_sem] kf
def dl.f(k:Nat)(a0_0:ByteArray)(a0_1:Int)(a0_2:Int)(a0_3:ByteArray)(a1_0:ByteArray)(a1_1:Int)(a1_2:Int)(a1_3:ByteArray): Option (Int):=(bl.f k a0_0 a1_0).bind fun g2=>(if g2=0 then((ag.f k a0_1 a0_3).bind fun g0=>((ag.f k a1_1 a1_3).bind fun g1=>(if a0_1=a1_1 then(if g0.1.toList=g1.1.toList then(if a0_2=a1_2 then(some 0)else((dI.f (decide (a0_2<a1_2))).bind fun g3=>(some g3)))else((dI.f (Op.bytesLess g0.1.toList g1.1.toList)).bind fun g4=>(some g4)))else((dI.f (decide (a0_1<a1_1))).bind fun g5=>(some g5)))))else(some g2))
theorem dl.c(k:Nat)(a0_0:ByteArray)(a0_1:Int)(a0_2:Int)(a0_3:ByteArray)(a1_0:ByteArray)(a1_1:Int)(a1_2:Int)(a1_3:ByteArray)(r:Int)(w:World)(h:dl.f k a0_0 a0_1 a0_2 a0_3 a1_0 a1_1 a1_2 a1_3=some r):
 Calls Tryz.prog 62 #[.agg #[.string a0_0,.int .i64 a0_1,.int .i64 a0_2,.string a0_3],.agg #[.string a1_0,.int .i64 a1_1,.int .i64 a1_2,.string a1_3]] w fun e w'=>e = .returned (.int .i64 r)∧Below w.heap.size w w':=by
 have hu45:=Tryz.underlying45;have HB:=a0_ (Below.refl w.heap.size w);have H:=h;clear h;unfold dl.f at H;obtain⟨j0,A3,H⟩:=ob_ H
 by_cases c4:j0=0
 case neg=>
  rw[if_neg c4]at H;have c4b0:=beq_eq_false_iff_ne.mpr c4;have c4b1:=bne_iff_ne.mpr c4;obtain rfl:=Option.some.inj H;go_enter Tryz.func62,Tryz.ntmps62;go_wp2_with (first|((with_reducible refine ax (N:=2) rfl ?_);refine cm 2 #[.string a0_0,.int .i64 a0_1,.int .i64 a0_2,.string a0_3] 45 (fun g2 hg b1 hbox hb=>?_);have g0:=a0_ (hbox);have g6:=a0_ (gw_ hg:w.heap.size≤g2);replace HB:=a0_ (aa ay hb);have j1:=g6;clear hb hbox hg)|((with_reducible refine ax (N:=3) rfl ?_);refine cm 3 #[.string a1_0,.int .i64 a1_1,.int .i64 a1_2,.string a1_3] 45 (fun g3 hg b2 hbox hb=>?_);have g1:=a0_ (hbox);have g7:=a0_ (gw_ hg (aj aD):w.heap.size≤g3);replace HB:=a0_ (aa aD hb);have g4:=a0_ ((by rw[hg];exact Nat.ne_of_lt (cB (g:=g2) (o:=.cells #[.string a0_0,.int .i64 a0_1,.int .i64 a0_2,.string a0_3] 45 (0,0)) (kB_ g0.out)):g2≠g3));have g5:=a0_ ((by rw[hg];exact Nat.ne_of_gt (cB (g:=g2) (o:=.cells #[.string a0_0,.int .i64 a0_1,.int .i64 a0_2,.string a0_3] 45 (0,0)) (kB_ g0.out)):g3≠g2));replace g0:=a0_ (bq g0 hb);have j2:=g7;clear hb hbox hg;have y1:=g4.out;have y2:=g5.out;obtain⟨_,_,_,_,_,_,_,_⟩:=cY g0.out;obtain⟨_,_,_,_,_,_,_,_⟩:=cY g1.out)|((with_reducible refine gt_ 128 rfl ?_);refine gs_ 14 Tryz.func128 #[.string a0_0,.string a1_0] ?_;(with_reducible refine(bl.c k a0_0 a1_0 j0 _ A3.out).mono ?_);rintro e b3 ⟨rfl,hb⟩;refine⟨_,rfl,?_⟩;replace g0:=a0_ (bq g0 hb);replace g1:=a0_ (bq g1 hb);replace HB:=a0_ (aa aD hb);clear hb));go_ret;exact⟨rr_,aD⟩
 rw[if_pos c4]at H;have c4b0:=beq_iff_eq.mpr c4;have c4b1:=bne_eq_false_iff_eq.mpr c4;clear c4;obtain⟨⟨g8,j3⟩,A5,H⟩:=ob_ H;obtain⟨⟨g9,j4⟩,A6,H⟩:=ob_ H
 by_cases c7:a0_1=a1_1
 case neg=>
  rw[if_neg c7]at H;have c7b0:=beq_eq_false_iff_ne.mpr c7;have c7b1:=bne_iff_ne.mpr c7;obtain⟨j5,j8,H⟩:=ob_ H;obtain rfl:=Option.some.inj H;go_enter Tryz.func62,Tryz.ntmps62;go_wp2_with (first|((with_reducible refine ax (N:=2) rfl ?_);refine cm 2 #[.string a0_0,.int .i64 a0_1,.int .i64 a0_2,.string a0_3] 45 (fun g2 hg b4 hbox hb=>?_);have g0:=a0_ (hbox);have g6:=a0_ (gw_ hg:w.heap.size≤g2);replace HB:=a0_ (aa ay hb);have j1:=g6;clear hb hbox hg)|((with_reducible refine ax (N:=3) rfl ?_);refine cm 3 #[.string a1_0,.int .i64 a1_1,.int .i64 a1_2,.string a1_3] 45 (fun g3 hg b5 hbox hb=>?_);have g1:=a0_ (hbox);have g7:=a0_ (gw_ hg (aj aD):w.heap.size≤g3);replace HB:=a0_ (aa aD hb);have g4:=a0_ ((by rw[hg];exact Nat.ne_of_lt (cB (g:=g2) (o:=.cells #[.string a0_0,.int .i64 a0_1,.int .i64 a0_2,.string a0_3] 45 (0,0)) (kB_ g0.out)):g2≠g3));have g5:=a0_ ((by rw[hg];exact Nat.ne_of_gt (cB (g:=g2) (o:=.cells #[.string a0_0,.int .i64 a0_1,.int .i64 a0_2,.string a0_3] 45 (0,0)) (kB_ g0.out)):g3≠g2));replace g0:=a0_ (bq g0 hb);have j2:=g7;clear hb hbox hg;have y3:=g4.out;have y4:=g5.out;obtain⟨_,_,_,_,_,_,_,_⟩:=cY g0.out;obtain⟨_,_,_,_,_,_,_,_⟩:=cY g1.out)|((with_reducible refine gt_ 128 rfl ?_);refine gs_ 14 Tryz.func128 #[.string a0_0,.string a1_0] ?_;(with_reducible refine(bl.c k a0_0 a1_0 j0 _ A3.out).mono ?_);rintro e b6 ⟨rfl,hb⟩;refine⟨_,rfl,?_⟩;replace g0:=a0_ (bq g0 hb);replace g1:=a0_ (bq g1 hb);replace HB:=a0_ (aa aD hb);clear hb;obtain⟨_,_,_,_,_,_,_,_⟩:=cY g0.out)|((with_reducible refine gt_ 55 rfl ?_);refine gs_ 23 Tryz.func55 #[.int .i64 a0_1,.string a0_3] ?_;(with_reducible refine(ag.c k a0_1 a0_3 g8 j3 _ A5.out).mono ?_);rintro e b7 ⟨rfl,hb⟩;refine⟨_,rfl,?_⟩;replace g0:=a0_ (bq g0 hb);replace g1:=a0_ (bq g1 hb);replace HB:=a0_ (aa aD hb);clear hb;obtain⟨_,_,_,_,_,_,_,_⟩:=cY g1.out)|((with_reducible refine gt_ 55 rfl ?_);refine gs_ 31 Tryz.func55 #[.int .i64 a1_1,.string a1_3] ?_;(with_reducible refine(ag.c k a1_1 a1_3 g9 j4 _ A6.out).mono ?_);rintro e b8 ⟨rfl,hb⟩;refine⟨_,rfl,?_⟩;replace g0:=a0_ (bq g0 hb);replace g1:=a0_ (bq g1 hb);replace HB:=a0_ (aa aD hb);clear hb;obtain⟨_,_,_,_,_,_,_,_⟩:=cY g0.out;obtain⟨_,_,_,_,_,_,_,_⟩:=cY g1.out)|((with_reducible refine gt_ 129 rfl ?_);refine gs_ 45 Tryz.func129 #[.bool (decide (a0_1<a1_1))] ?_;(with_reducible refine(dI.c (decide (a0_1<a1_1)) j5 _ j8.out).mono ?_);rintro e w' ⟨rfl,⟨nd,rfl⟩⟩;refine⟨_,rfl,?_⟩));go_ret;exact⟨rr_,aD⟩
 rw[if_pos c7]at H;have c7b0:=beq_iff_eq.mpr c7;have c7b1:=bne_eq_false_iff_eq.mpr c7;clear c7
 by_cases c8:g8.toList=g9.toList
 case neg=>
  rw[if_neg c8]at H;have c8b0:=beq_eq_false_iff_ne.mpr c8;have c8b1:=bne_iff_ne.mpr c8;obtain⟨j6,j9,H⟩:=ob_ H;obtain rfl:=Option.some.inj H;go_enter Tryz.func62,Tryz.ntmps62;go_wp2_with (first|((with_reducible refine ax (N:=2) rfl ?_);refine cm 2 #[.string a0_0,.int .i64 a0_1,.int .i64 a0_2,.string a0_3] 45 (fun g2 hg b9 hbox hb=>?_);have g0:=a0_ (hbox);have g6:=a0_ (gw_ hg:w.heap.size≤g2);replace HB:=a0_ (aa ay hb);have j1:=g6;clear hb hbox hg)|((with_reducible refine ax (N:=3) rfl ?_);refine cm 3 #[.string a1_0,.int .i64 a1_1,.int .i64 a1_2,.string a1_3] 45 (fun g3 hg d0 hbox hb=>?_);have g1:=a0_ (hbox);have g7:=a0_ (gw_ hg (aj aD):w.heap.size≤g3);replace HB:=a0_ (aa aD hb);have g4:=a0_ ((by rw[hg];exact Nat.ne_of_lt (cB (g:=g2) (o:=.cells #[.string a0_0,.int .i64 a0_1,.int .i64 a0_2,.string a0_3] 45 (0,0)) (kB_ g0.out)):g2≠g3));have g5:=a0_ ((by rw[hg];exact Nat.ne_of_gt (cB (g:=g2) (o:=.cells #[.string a0_0,.int .i64 a0_1,.int .i64 a0_2,.string a0_3] 45 (0,0)) (kB_ g0.out)):g3≠g2));replace g0:=a0_ (bq g0 hb);have j2:=g7;clear hb hbox hg;have y5:=g4.out;have y6:=g5.out;obtain⟨_,_,_,_,_,_,_,_⟩:=cY g0.out;obtain⟨_,_,_,_,_,_,_,_⟩:=cY g1.out)|((with_reducible refine gt_ 128 rfl ?_);refine gs_ 14 Tryz.func128 #[.string a0_0,.string a1_0] ?_;(with_reducible refine(bl.c k a0_0 a1_0 j0 _ A3.out).mono ?_);rintro e d3 ⟨rfl,hb⟩;refine⟨_,rfl,?_⟩;replace g0:=a0_ (bq g0 hb);replace g1:=a0_ (bq g1 hb);replace HB:=a0_ (aa aD hb);clear hb;obtain⟨_,_,_,_,_,_,_,_⟩:=cY g0.out)|((with_reducible refine gt_ 55 rfl ?_);refine gs_ 23 Tryz.func55 #[.int .i64 a0_1,.string a0_3] ?_;(with_reducible refine(ag.c k a0_1 a0_3 g8 j3 _ A5.out).mono ?_);rintro e d4 ⟨rfl,hb⟩;refine⟨_,rfl,?_⟩;replace g0:=a0_ (bq g0 hb);replace g1:=a0_ (bq g1 hb);replace HB:=a0_ (aa aD hb);clear hb;obtain⟨_,_,_,_,_,_,_,_⟩:=cY g1.out)|((with_reducible refine gt_ 55 rfl ?_);refine gs_ 31 Tryz.func55 #[.int .i64 a1_1,.string a1_3] ?_;(with_reducible refine(ag.c k a1_1 a1_3 g9 j4 _ A6.out).mono ?_);rintro e d5 ⟨rfl,hb⟩;refine⟨_,rfl,?_⟩;replace g0:=a0_ (bq g0 hb);replace g1:=a0_ (bq g1 hb);replace HB:=a0_ (aa aD hb);clear hb;obtain⟨_,_,_,_,_,_,_,_⟩:=cY g0.out;obtain⟨_,_,_,_,_,_,_,_⟩:=cY g1.out)|((with_reducible refine gt_ 129 rfl ?_);refine gs_ 53 Tryz.func129 #[.bool (Op.bytesLess g8.toList g9.toList)] ?_;(with_reducible refine(dI.c (Op.bytesLess g8.toList g9.toList) j6 _ j9.out).mono ?_);rintro e w' ⟨rfl,⟨nd,rfl⟩⟩;refine⟨_,rfl,?_⟩));go_ret;exact⟨rr_,aD⟩
 rw[if_pos c8]at H;have c8b0:=beq_iff_eq.mpr c8;have c8b1:=bne_eq_false_iff_eq.mpr c8;clear c8
 by_cases c9:a0_2=a1_2
 case pos=>
  rw[if_pos c9]at H;have c9b0:=beq_iff_eq.mpr c9;have c9b1:=bne_eq_false_iff_eq.mpr c9;clear c9;obtain rfl:=Option.some.inj H;go_enter Tryz.func62,Tryz.ntmps62;go_wp2_with (first|((with_reducible refine ax (N:=2) rfl ?_);refine cm 2 #[.string a0_0,.int .i64 a0_1,.int .i64 a0_2,.string a0_3] 45 (fun g2 hg d6 hbox hb=>?_);have g0:=a0_ (hbox);have g6:=a0_ (gw_ hg:w.heap.size≤g2);replace HB:=a0_ (aa ay hb);have j1:=g6;clear hb hbox hg)|((with_reducible refine ax (N:=3) rfl ?_);refine cm 3 #[.string a1_0,.int .i64 a1_1,.int .i64 a1_2,.string a1_3] 45 (fun g3 hg d7 hbox hb=>?_);have g1:=a0_ (hbox);have g7:=a0_ (gw_ hg (aj aD):w.heap.size≤g3);replace HB:=a0_ (aa aD hb);have g4:=a0_ ((by rw[hg];exact Nat.ne_of_lt (cB (g:=g2) (o:=.cells #[.string a0_0,.int .i64 a0_1,.int .i64 a0_2,.string a0_3] 45 (0,0)) (kB_ g0.out)):g2≠g3));have g5:=a0_ ((by rw[hg];exact Nat.ne_of_gt (cB (g:=g2) (o:=.cells #[.string a0_0,.int .i64 a0_1,.int .i64 a0_2,.string a0_3] 45 (0,0)) (kB_ g0.out)):g3≠g2));replace g0:=a0_ (bq g0 hb);have j2:=g7;clear hb hbox hg;have y7:=g4.out;have y8:=g5.out;obtain⟨_,_,_,_,_,_,_,_⟩:=cY g0.out;obtain⟨_,_,_,_,_,_,_,_⟩:=cY g1.out)|((with_reducible refine gt_ 128 rfl ?_);refine gs_ 14 Tryz.func128 #[.string a0_0,.string a1_0] ?_;(with_reducible refine(bl.c k a0_0 a1_0 j0 _ A3.out).mono ?_);rintro e d8 ⟨rfl,hb⟩;refine⟨_,rfl,?_⟩;replace g0:=a0_ (bq g0 hb);replace g1:=a0_ (bq g1 hb);replace HB:=a0_ (aa aD hb);clear hb;obtain⟨_,_,_,_,_,_,_,_⟩:=cY g0.out)|((with_reducible refine gt_ 55 rfl ?_);refine gs_ 23 Tryz.func55 #[.int .i64 a0_1,.string a0_3] ?_;(with_reducible refine(ag.c k a0_1 a0_3 g8 j3 _ A5.out).mono ?_);rintro e d9 ⟨rfl,hb⟩;refine⟨_,rfl,?_⟩;replace g0:=a0_ (bq g0 hb);replace g1:=a0_ (bq g1 hb);replace HB:=a0_ (aa aD hb);clear hb;obtain⟨_,_,_,_,_,_,_,_⟩:=cY g1.out)|((with_reducible refine gt_ 55 rfl ?_);refine gs_ 31 Tryz.func55 #[.int .i64 a1_1,.string a1_3] ?_;(with_reducible refine(ag.c k a1_1 a1_3 g9 j4 _ A6.out).mono ?_);rintro e z0 ⟨rfl,hb⟩;refine⟨_,rfl,?_⟩;replace g0:=a0_ (bq g0 hb);replace g1:=a0_ (bq g1 hb);replace HB:=a0_ (aa aD hb);clear hb;obtain⟨_,_,_,_,_,_,_,_⟩:=cY g0.out;obtain⟨_,_,_,_,_,_,_,_⟩:=cY g1.out));go_ret;exact⟨rr_,aD⟩
 rw[if_neg c9]at H;have c9b0:=beq_eq_false_iff_ne.mpr c9;have c9b1:=bne_iff_ne.mpr c9;obtain⟨j7,y0,H⟩:=ob_ H;obtain rfl:=Option.some.inj H;go_enter Tryz.func62,Tryz.ntmps62;go_wp2_with (first|((with_reducible refine ax (N:=2) rfl ?_);refine cm 2 #[.string a0_0,.int .i64 a0_1,.int .i64 a0_2,.string a0_3] 45 (fun g2 hg z1 hbox hb=>?_);have g0:=a0_ (hbox);have g6:=a0_ (gw_ hg:w.heap.size≤g2);replace HB:=a0_ (aa ay hb);have j1:=g6;clear hb hbox hg)|((with_reducible refine ax (N:=3) rfl ?_);refine cm 3 #[.string a1_0,.int .i64 a1_1,.int .i64 a1_2,.string a1_3] 45 (fun g3 hg z2 hbox hb=>?_);have g1:=a0_ (hbox);have g7:=a0_ (gw_ hg (aj aD):w.heap.size≤g3);replace HB:=a0_ (aa aD hb);have g4:=a0_ ((by rw[hg];exact Nat.ne_of_lt (cB (g:=g2) (o:=.cells #[.string a0_0,.int .i64 a0_1,.int .i64 a0_2,.string a0_3] 45 (0,0)) (kB_ g0.out)):g2≠g3));have g5:=a0_ ((by rw[hg];exact Nat.ne_of_gt (cB (g:=g2) (o:=.cells #[.string a0_0,.int .i64 a0_1,.int .i64 a0_2,.string a0_3] 45 (0,0)) (kB_ g0.out)):g3≠g2));replace g0:=a0_ (bq g0 hb);have j2:=g7;clear hb hbox hg;have y9:=g4.out;have b0:=g5.out;obtain⟨_,_,_,_,_,_,_,_⟩:=cY g0.out;obtain⟨_,_,_,_,_,_,_,_⟩:=cY g1.out)|((with_reducible refine gt_ 128 rfl ?_);refine gs_ 14 Tryz.func128 #[.string a0_0,.string a1_0] ?_;(with_reducible refine(bl.c k a0_0 a1_0 j0 _ A3.out).mono ?_);rintro e z3 ⟨rfl,hb⟩;refine⟨_,rfl,?_⟩;replace g0:=a0_ (bq g0 hb);replace g1:=a0_ (bq g1 hb);replace HB:=a0_ (aa aD hb);clear hb;obtain⟨_,_,_,_,_,_,_,_⟩:=cY g0.out)|((with_reducible refine gt_ 55 rfl ?_);refine gs_ 23 Tryz.func55 #[.int .i64 a0_1,.string a0_3] ?_;(with_reducible refine(ag.c k a0_1 a0_3 g8 j3 _ A5.out).mono ?_);rintro e z4 ⟨rfl,hb⟩;refine⟨_,rfl,?_⟩;replace g0:=a0_ (bq g0 hb);replace g1:=a0_ (bq g1 hb);replace HB:=a0_ (aa aD hb);clear hb;obtain⟨_,_,_,_,_,_,_,_⟩:=cY g1.out)|((with_reducible refine gt_ 55 rfl ?_);refine gs_ 31 Tryz.func55 #[.int .i64 a1_1,.string a1_3] ?_;(with_reducible refine(ag.c k a1_1 a1_3 g9 j4 _ A6.out).mono ?_);rintro e z5 ⟨rfl,hb⟩;refine⟨_,rfl,?_⟩;replace g0:=a0_ (bq g0 hb);replace g1:=a0_ (bq g1 hb);replace HB:=a0_ (aa aD hb);clear hb;obtain⟨_,_,_,_,_,_,_,_⟩:=cY g0.out;obtain⟨_,_,_,_,_,_,_,_⟩:=cY g1.out)|((with_reducible refine gt_ 129 rfl ?_);refine gs_ 65 Tryz.func129 #[.bool (decide (a0_2<a1_2))] ?_;(with_reducible refine(dI.c (decide (a0_2<a1_2)) j7 _ y0.out).mono ?_);rintro e w' ⟨rfl,⟨nd,rfl⟩⟩;refine⟨_,rfl,?_⟩));go_ret;exact⟨rr_,aD⟩
end Go.Proofs.YtiegkjimpclmaaaGreatDoor.P
namespace Go.Proofs.YtiegkjimpclmaaaGreatDoor.P
def dT: ByteArray×Bool:=((⟨#[]⟩:ByteArray),false)
def ap.l0: Nat→List ByteArray→ByteArray→Int→Option (ByteArray×Bool)
 | 0,_,_,_=>none
 | k+1,parts,out,i=>if i<(parts.length:Int)then(if 0≤i then((dk.f (bn ByteArray.empty parts i) 255).bind fun b=>(if b.2=true then(if(parts.length:Int)=4 then((aW.f k b.1 1).bind fun t=>(if out.size+t.size≤9223372036854775807 then ap.l0 k parts (out++t) (wrap64 (i+1))else none))else some dT)else some dT))else none)else some (out,true)
def fA(k:Nat)(data:ByteArray): Option (ByteArray×Bool):=if(data.size:Int)>30 then some dT else(if(bytesOf data).any (fun c=>decide (c<32)||decide (c>126))=true then some dT else((aW.f k (data.size:Int) 1).bind fun t=>(if t.size+data.size≤9223372036854775807 then some (t++data,true)else none)))
def gz(k:Nat)(data:ByteArray): Option (ByteArray×Bool):=(cy.f data (⟨#[32]⟩:ByteArray)).bind fun c=>((dk.f c.1 65535).bind fun b=>(if b.2=true then((dn.f c.2.1).bind fun t=>(if t=true then((aW.f k b.1 2).bind fun g=>((aT.f k c.2.1).bind fun lb=>(if g.size+lb.size≤9223372036854775807 then(if g.size+lb.size+1≤9223372036854775807 then some ((g++lb)++(⟨#[0]⟩:ByteArray),true)else none)else none)))else some dT))else some dT))
def gR(k:Nat)(data:ByteArray): Option (ByteArray×Bool):=(dn.f data).bind fun t=>(if t=true then((aT.f k data).bind fun lb=>(if lb.size+1≤9223372036854775807 then some (lb++(⟨#[0]⟩:ByteArray),true)else none))else some dT)
def fR(k:Nat)(data:ByteArray): Option (ByteArray×Bool):=(dk.f data 4294967295).bind fun b=>(if b.2=true then((aW.f k b.1 4).bind fun t=>some (t,true))else some dT)
def ap.f(k:Nat)(kind:Int)(data:ByteArray): Option (ByteArray×Bool):=
 if kind=1 then((cM.f data (⟨#[46]⟩:ByteArray)).bind fun parts=>ap.l0 k parts (⟨#[]⟩:ByteArray) 0)
 else(if kind=2∨kind=5 then gR k data else(if kind=6 then fR k data else(if kind=15 then gz k data else(if kind=16 then fA k data else some dT))))
set_option maxHeartbeats 4000000 in
theorem qX(k:Nat)(kind:Int)(hk:kind=2∨kind=5)(a1:ByteArray)(r1:ByteArray)(r2:Bool)(w:World)(h:gR k a1=some (r1,r2))(hv:Vars w):
 Calls Tryz.prog 31 #[.int .i64 kind,.string a1] w fun e w'=>e = .returned (.tuple #[.string r1,.bool r2])∧Below w.heap.size w w':=by
 unfold gR at h;obtain⟨t,ht,h⟩:=Option.bind_eq_some_iff.mp h
 have tc:=fun W=>dn.c a1 t W ht
 have hk1:(kind==1)=false:=by rcases hk with rfl|rfl<;>rfl
 have hk2:kind=2→(kind==2)=true:=fun e=>by rw[e];rfl
 cases t with
 | false=>
  obtain⟨rfl,rfl⟩:=Prod.mk.inj (Option.some.inj h);clear h ht
  rcases hk with rfl|rfl
  · go_enter Tryz.func31, Tryz.ntmps31
    go_wp2_with (go_at_call 90;refine(tc _).mono ?_;rintro e w1 ⟨rfl,hb⟩);go_ret2;exact⟨rfl,hb⟩
  · go_enter Tryz.func31, Tryz.ntmps31
    go_wp2_with (go_at_call 90;refine(tc _).mono ?_;rintro e w1 ⟨rfl,hb⟩);go_ret2;exact⟨rfl,hb⟩
 | true=>
  rw[if_pos rfl]at h;obtain⟨lb,hlb,h⟩:=Option.bind_eq_some_iff.mp h
  have lc:=fun W=>aT.c k a1 lb W hlb
  by_cases hs:lb.size+1≤9223372036854775807
  · rw [if_pos hs] at h
    obtain⟨rfl,rfl⟩:=Prod.mk.inj (Option.some.inj h);have hsa:=eq_true hs;have hsc:(9223372036854775807<lb.size+1)=False:=eq_false (by omega);clear h ht hlb
    rcases hk with rfl|rfl
    · go_enter Tryz.func31, Tryz.ntmps31
      go_wp2_with (first|(go_at_call 90;refine(tc _).mono ?_;rintro e w1 ⟨rfl,hb⟩)|(go_at_call 91;refine(lc _).mono ?_;rintro e w2 ⟨rfl,hb2⟩;have hb3:=bj hb hb.size hb2));go_ret2;exact⟨rfl,hb3⟩
    · go_enter Tryz.func31, Tryz.ntmps31
      go_wp2_with (first|(go_at_call 90;refine(tc _).mono ?_;rintro e w1 ⟨rfl,hb⟩)|(go_at_call 91;refine(lc _).mono ?_;rintro e w2 ⟨rfl,hb2⟩;have hb3:=bj hb hb.size hb2));go_ret2;exact⟨rfl,hb3⟩
  ·rw[if_neg hs]at h;cases h
set_option maxHeartbeats 4000000 in
theorem pq(k:Nat)(a1:ByteArray)(r1:ByteArray)(r2:Bool)(w:World)(h:fR k a1=some (r1,r2))(hv:Vars w):
 Calls Tryz.prog 31 #[.int .i64 6,.string a1] w fun e w'=>e = .returned (.tuple #[.string r1,.bool r2])∧Below w.heap.size w w':=by
 unfold fR at h;obtain⟨⟨b1,b2⟩,hb0,h⟩:=Option.bind_eq_some_iff.mp h;replace h:(if b2=true then((aW.f k b1 4).bind fun t=>some (t,true))else some dT)=some (r1,r2):=h
 have nc:=fun W (hbW:Below w.heap.size w W)=>dk.c a1 4294967295 b1 b2 W hb0 (Vars.below hv hbW)
 clear hv
 cases b2 with
 | false=>
  obtain⟨rfl,rfl⟩:=Prod.mk.inj (Option.some.inj h);clear h;go_enter Tryz.func31,Tryz.ntmps31;go_wp2_with (go_at_call 88;refine(nc _ (Below.refl _ _)).mono ?_;rintro e w1 ⟨rfl,hb⟩);go_ret2;exact⟨rfl,hb⟩
 | true=>
  rw[if_pos rfl]at h;obtain⟨g,hg,h⟩:=Option.bind_eq_some_iff.mp h
  have gc:=fun W=>aW.c k b1 4 g W hg
  obtain⟨rfl,rfl⟩:=Prod.mk.inj (Option.some.inj h);clear h;go_enter Tryz.func31,Tryz.ntmps31;go_wp2_with (first|(go_at_call 88;refine(nc _ (Below.refl _ _)).mono ?_;rintro e w1 ⟨rfl,hb⟩)|(go_at_call 89;refine(gc _).mono ?_;rintro e w2 ⟨rfl,hb2⟩;have hb3:=bj hb hb.size hb2));go_ret2;exact⟨rfl,hb3⟩
set_option maxHeartbeats 4000000 in
theorem qS(k:Nat)(a1:ByteArray)(r1:ByteArray)(r2:Bool)(w:World)(h:gz k a1=some (r1,r2))(hv:Vars w):
 Calls Tryz.prog 31 #[.int .i64 15,.string a1] w fun e w'=>e = .returned (.tuple #[.string r1,.bool r2])∧Below w.heap.size w w':=by
 unfold gz at h;obtain⟨⟨c1,c2,c3⟩,hc,h⟩:=Option.bind_eq_some_iff.mp h;obtain⟨⟨b1,b2⟩,hb0,h⟩:=Option.bind_eq_some_iff.mp h;replace h:(if b2=true then((dn.f c2).bind fun t=>(if t=true then((aW.f k b1 2).bind fun g=>((aT.f k c2).bind fun lb=>(if g.size+lb.size≤9223372036854775807 then(if g.size+lb.size+1≤9223372036854775807 then some ((g++lb)++(⟨#[0]⟩:ByteArray),true)else none)else none)))else some dT))else some dT)=some (r1,r2):=h
 have cutc:=fun W=>cy.c a1 (⟨#[32]⟩:ByteArray) c1 c2 c3 W hc
 have nc:=fun W (hbW:Below w.heap.size w W)=>dk.c c1 65535 b1 b2 W hb0 (Vars.below hv hbW)
 clear hv
 cases b2 with
 | false=>
  obtain⟨rfl,rfl⟩:=Prod.mk.inj (Option.some.inj h);clear h;go_enter Tryz.func31,Tryz.ntmps31;go_wp2_with (first|(go_at_call 92;refine(cutc _).mono ?_;rintro e w0 ⟨rfl,nd,rfl⟩;have hb0':=bv (Below.refl w.heap.size w) nd)|(go_at_call 88;refine(nc _ hb0').mono ?_;rintro e w1 ⟨rfl,hb⟩;have hb1:=bj hb0' hb0'.size hb));go_ret2;exact⟨rfl,hb1⟩
 | true=>
  rw[if_pos rfl]at h;obtain⟨t,ht,h⟩:=Option.bind_eq_some_iff.mp h
  have tc:=fun W=>dn.c c2 t W ht
  cases t with
  | false=>
   obtain⟨rfl,rfl⟩:=Prod.mk.inj (Option.some.inj h);clear h;go_enter Tryz.func31,Tryz.ntmps31;go_wp2_with (first|(go_at_call 92;refine(cutc _).mono ?_;rintro e w0 ⟨rfl,nd,rfl⟩;have hb0':=bv (Below.refl w.heap.size w) nd)|(go_at_call 88;refine(nc _ hb0').mono ?_;rintro e w1 ⟨rfl,hb⟩;have hb1:=bj hb0' hb0'.size hb)|(go_at_call 90;refine(tc _).mono ?_;rintro e w2 ⟨rfl,hbt⟩;have hb2:=bj hb1 hb1.size hbt));go_ret2;exact⟨rfl,hb2⟩
  | true=>
   rw[if_pos rfl]at h;obtain⟨g,hg,h⟩:=Option.bind_eq_some_iff.mp h;obtain⟨lb,hlb,h⟩:=Option.bind_eq_some_iff.mp h
   have gc:=fun W=>aW.c k b1 2 g W hg
   have lc:=fun W=>aT.c k c2 lb W hlb
   by_cases hs:g.size+lb.size≤9223372036854775807
   · rw [if_pos hs] at h
     by_cases hs2:g.size+lb.size+1≤9223372036854775807
     · rw [if_pos hs2] at h
       obtain⟨rfl,rfl⟩:=Prod.mk.inj (Option.some.inj h);have hsa:=eq_true hs;have hsc:(9223372036854775807<g.size+lb.size)=False:=eq_false (by omega);have hsa2:=eq_true hs2;have hsc2:(9223372036854775807<g.size+lb.size+1)=False:=eq_false (by omega);clear h;go_enter Tryz.func31,Tryz.ntmps31;go_wp2_with (first|(go_at_call 92;refine(cutc _).mono ?_;rintro e w0 ⟨rfl,nd,rfl⟩;have hb0':=bv (Below.refl w.heap.size w) nd)|(go_at_call 88;refine(nc _ hb0').mono ?_;rintro e w1 ⟨rfl,hb⟩;have hb1:=bj hb0' hb0'.size hb)|(go_at_call 90;refine(tc _).mono ?_;rintro e w2 ⟨rfl,hbt⟩;have hb2:=bj hb1 hb1.size hbt)|(go_at_call 89;refine(gc _).mono ?_;rintro e w3 ⟨rfl,hbg⟩;have hb3:=bj hb2 hb2.size hbg)|(go_at_call 91;refine(lc _).mono ?_;rintro e w4 ⟨rfl,hbl⟩;have hb4:=bj hb3 hb3.size hbl));go_ret2;exact⟨rfl,hb4⟩
     ·rw[if_neg hs2]at h;cases h
   ·rw[if_neg hs]at h;cases h
set_option maxHeartbeats 4000000 in
theorem mZ(kind:Int)(h1:kind≠1)(h2:kind≠2)(h5:kind≠5)(h6:kind≠6)(h15:kind≠15)(h16:kind≠16)(a1:ByteArray)(w:World):
 Calls Tryz.prog 31 #[.int .i64 kind,.string a1] w fun e w'=>e = .returned (.tuple #[.string (⟨#[]⟩:ByteArray),.bool false])∧Below w.heap.size w w':=by
 have g1:(kind==1)=false:=beq_eq_false_iff_ne.mpr h1;have g2:(kind==2)=false:=beq_eq_false_iff_ne.mpr h2;have g5:(kind==5)=false:=beq_eq_false_iff_ne.mpr h5;have g6:(kind==6)=false:=beq_eq_false_iff_ne.mpr h6;have g15:(kind==15)=false:=beq_eq_false_iff_ne.mpr h15;have g16:(kind==16)=false:=beq_eq_false_iff_ne.mpr h16;clear h1 h2 h5 h6 h15 h16;go_enter Tryz.func31,Tryz.ntmps31;go_wp2;go_ret2;exact⟨rfl,Below.refl _ _⟩
theorem oP(xs:List Int)(W:World): jK 94 #[] (.int .u8) (fun c=>decide (c<32)||decide (c>126)) xs W:=by
 intro x hx W' hW
 have e:dX.f x=some (decide (x<32)||decide (x>126)):=by
  unfold dX.f
  by_cases h:x<32
  ·rw[if_pos h,decide_eq_true h];rfl
  ·rw[if_neg h,decide_eq_false h];rfl
 refine(dX.c x _ W' e).mono ?_
 rintro e w' ⟨he,nd,rfl⟩;exact⟨he,bv (Below.refl _ _) nd⟩
theorem hU(s:ByteArray): (bytesOf s).length=s.size:=by
 unfold bytesOf;simp only[List.length_map];exact(aU s).symm
set_option maxHeartbeats 4000000 in
theorem qp(k:Nat)(a1:ByteArray)(r1:ByteArray)(r2:Bool)(w:World)(h:fA k a1=some (r1,r2)):
 Calls Tryz.prog 31 #[.int .i64 16,.string a1] w fun e w'=>e = .returned (.tuple #[.string r1,.bool r2])∧Below w.heap.size w w':=by
 unfold fA at h
 by_cases h30:(a1.size:Int)>30
 · rw [if_pos h30] at h
   obtain⟨rfl,rfl⟩:=Prod.mk.inj (Option.some.inj h);have e1:decide (30<a1.size)=true:=decide_eq_true (by omega);have e2:decide ((30:Int)<(a1.size:Int))=true:=decide_eq_true (by omega);clear h;go_enter Tryz.func31,Tryz.ntmps31;go_wp2;go_ret2;exact⟨rfl,Below.refl _ _⟩
 · rw [if_neg h30] at h
   have e1:decide (30<a1.size)=false:=decide_eq_false (by omega);have e2:decide ((30:Int)<(a1.size:Int))=false:=decide_eq_false (by omega);have eg:∀ args w,(callFunc 94 args).run Tryz.prog w = .ok (.enter 94 args) w:=enters_of Tryz.func94 (by kernel_rfl) rfl
   have cc0:=fun W c=>kK (some ⟨W.heap.size,0,none⟩) c (bytesOf a1) 94 #[] (fun c=>decide (c<32)||decide (c>126)) (Lib.bytesWorld W 5 a1) (by
    have hr:=mu W 5 a1 (by omega);have:=Kd.C_of_reads (d:=(0:Int)) (h1:=fun _=>rfl) hr;rw[show(bytesOf a1).length=a1.size by rw[hU]]
    exact this) eg (oP _ _)
   have hlen:(bytesOf a1).length=a1.size:=by rw[hU]
   rw[hlen]at cc0;generalize hany:(bytesOf a1).any (fun c=>decide (c<32)||decide (c>126))=b at h cc0;have g0:(30<a1.size)=False:=eq_false (by omega)
   have kb:=fun W=>gL (P:=Tryz.prog) 9 43 5 Tryz.underlying9 Tryz.underlying43 Tryz.underlying5 a1 W
   cases b with
   | true=>
    rw[if_pos rfl]at h;obtain⟨rfl,rfl⟩:=Prod.mk.inj (Option.some.inj h);clear h h30 hlen hany;go_enter Tryz.func31,Tryz.ntmps31;go_wp2_with (go_at_call 93;refine(cc0 _ _).mono ?_;rintro e w1 ⟨rfl,hb⟩;have hb1:=bj (Lib.bytesWorld_below w 5 a1) (Lib.bytesWorld_below w 5 a1).size hb);go_ret2;exact⟨rfl,hb1⟩
   | false=>
    rw[if_neg (by simp)]at h;obtain⟨g,hg,h⟩:=Option.bind_eq_some_iff.mp h
    have gc:=fun W=>aW.c k (a1.size:Int) 1 g W hg
    by_cases hs:g.size+a1.size≤9223372036854775807
    · rw [if_pos hs] at h
      obtain⟨rfl,rfl⟩:=Prod.mk.inj (Option.some.inj h);have hsa:=eq_true hs;have hsc:(9223372036854775807<g.size+a1.size)=False:=eq_false (by omega);clear h h30 hlen hany;go_enter Tryz.func31,Tryz.ntmps31;go_wp2_with (first|(go_at_call 93;refine(cc0 _ _).mono ?_;rintro e w1 ⟨rfl,hb⟩;have hb1:=bj (Lib.bytesWorld_below w 5 a1) (Lib.bytesWorld_below w 5 a1).size hb)|(go_at_call 89;refine(gc _).mono ?_;rintro e w2 ⟨rfl,hbg⟩;have hb2:=bj hb1 hb1.size hbg));go_ret2;exact⟨rfl,hb2⟩
    ·rw[if_neg hs]at h;cases h
set_option maxHeartbeats 4000000 in
theorem rR(k:Nat)(a1:ByteArray)(parts:List ByteArray)(r1:ByteArray)(r2:Bool)(w:World)(hp:cM.f a1 (⟨#[46]⟩:ByteArray)=some parts)(h:ap.l0 k parts (⟨#[]⟩:ByteArray) 0=some (r1,r2))(hv:Vars w):
 Calls Tryz.prog 31 #[.int .i64 1,.string a1] w fun e w'=>e = .returned (.tuple #[.string r1,.bool r2])∧Below w.heap.size w w':=by
 have sc:=fun W=>cM.c a1 (⟨#[46]⟩:ByteArray) parts W hp
 have HV:=ab.mk hv;have H':=ab.mk h;clear h hv hp;go_enter Tryz.func31,Tryz.ntmps31;go_wp2_with (go_at_call 87;refine(sc _).mono ?_;rintro e w1 ⟨v,rfl,hR,hbw⟩;have HO:=ab.mk hR;have HB1:=ab.mk hbw;clear hR hbw;obtain⟨A,c,rfl⟩:=Kd.R_slice HO.out);go_loopg [6,26] k (fun kq v6 g0 wr=> ∃ (out:ByteArray) (x:Int),v6 = .string out∧g0 = .int .i64 x∧ab (ap.l0 kq parts out x=some (r1,r2))∧ab (kq≤k)∧ab (Kd.C Kd.string wr A parts.length parts)∧ab (Below w.heap.size w wr))
 case atStart=>exact⟨(⟨#[]⟩:ByteArray),0,rfl,rfl,H',⟨Nat.le_refl _⟩,⟨(Kd.R_reads' HO.out).2.2⟩,HB1⟩
 case round=>
  obtain⟨out,x,rfl,rfl,HA,HK1,HC,BW⟩:=hrel
  cases gk with
  | zero=>exact absurd HA.out (by simp[ap.l0])
  | succ k1=>
   have H:=HA.out;clear HA H';simp only[ap.l0]at H
   by_cases c1:x<(parts.length:Int)
   · rw [if_pos c1] at H
     by_cases c2:0≤x
     · rw [if_pos c2] at H
       obtain⟨⟨b1,b2⟩,hb0,H⟩:=Option.bind_eq_some_iff.mp H;replace H:(if b2=true then(if(parts.length:Int)=4 then((aW.f k1 b1 1).bind fun t=>(if out.size+t.size≤9223372036854775807 then ap.l0 k1 parts (out++t) (wrap64 (x+1))else none))else some dT)else some dT)=some (r1,r2):=H
       have nc:=fun W (hbW:Below w.heap.size w W)=>dk.c (bn ByteArray.empty parts x) 255 b1 b2 W hb0 (Vars.below HV.out hbW)
       have c1b:decide (x<(parts.length:Int))=true:=decide_eq_true c1;obtain⟨ad,e0,hx⟩:=Kd.at_string HC.out x c2 c1;cases e0;have c1z:=eq_true c1;have c2z:=eq_true c2;generalize bn ByteArray.empty parts x=pv at hb0 nc hx;clear hb0;have hbw:=BW.out
       cases b2 with
       | false=>
        obtain⟨rfl,rfl⟩:=Prod.mk.inj (Option.some.inj H);clear H;go_wp2_with (go_at_call 88;refine(nc _ hbw).mono ?_;rintro e w2 ⟨rfl,hb2⟩);go_ret2;exact⟨rfl,bj BW.out BW.out.size hb2⟩
       | true=>
        rw[if_pos rfl]at H
        by_cases c4:(parts.length:Int)=4
        · rw [if_pos c4] at H
          obtain⟨g,hg,H⟩:=Option.bind_eq_some_iff.mp H
          have gc:=fun W=>aW.c k1 b1 1 g W hg
          have c4a:((parts.length:Int)==4)=true:=by rw[c4];rfl
          have c4b:(parts.length==4)=true:=by rw[show parts.length=4 by omega];rfl
          have c4c:((parts.length:Int) !=4)=false:=by rw[c4];rfl
          by_cases hs:out.size+g.size≤9223372036854775807
          · rw [if_pos hs] at H
            have hsa:=eq_true hs;have hsc:(9223372036854775807<out.size+g.size)=False:=eq_false (by omega);have HN:=ab.mk H;clear H hg c4 hs;go_wp2_with (first|(go_at_call 88;refine(nc _ hbw).mono ?_;rintro e w2 ⟨rfl,hb2⟩)|(go_at_call 89;refine(gc _).mono ?_;rintro e w3 ⟨rfl,hb3⟩;have hb4:=bj hb2 hb2.size hb3));go_roundg k1
            case measure=>have:=HK1.out;omega
            case rel=>exact⟨out++g,wrap64 (x+1),rfl,rfl,HN,⟨by have:=HK1.out;omega⟩,⟨Kd.C_below HC.out hb4⟩,⟨bj BW.out BW.out.size hb4⟩⟩
          ·rw[if_neg hs]at H;cases H
        · rw [if_neg c4] at H
          obtain⟨rfl,rfl⟩:=Prod.mk.inj (Option.some.inj H);have c4a:((parts.length:Int)==4)=false:=beq_eq_false_iff_ne.mpr c4;have c4b:(parts.length==4)=false:=beq_eq_false_iff_ne.mpr (by omega)
          have c4c:((parts.length:Int) !=4)=true:=by rw[bne,c4a];rfl
          clear H c4;go_wp2_with (go_at_call 88;refine(nc _ hbw).mono ?_;rintro e w2 ⟨rfl,hb2⟩);go_ret2;exact⟨rfl,bj BW.out BW.out.size hb2⟩
     ·rw[if_neg c2]at H;cases H
   · rw [if_neg c1] at H
     have c1b:decide (x<(parts.length:Int))=false:=decide_eq_false c1;obtain⟨rfl,rfl⟩:=Prod.mk.inj (Option.some.inj H);clear H;go_wp2;go_ret2;exact⟨rfl,BW.out⟩
theorem ap.c(k:Nat)(a0:Int)(a1:ByteArray)(r1:ByteArray)(r2:Bool)(w:World)(h:ap.f k a0 a1=some (r1,r2))
 (hv:Vars w:=by first|assumption|(refine Vars.below (ab.out (by assumption)) ?_;repeat(first|(with_reducible first|exact Below.refl _ _|exact ab.out (by assumption)|apply bF|apply bv|apply bp)|exact ab.out (by assumption)))) :
 Calls Tryz.prog 31 #[.int .i64 a0,.string a1] w fun e w'=>e = .returned (.tuple #[.string r1,.bool r2])∧Below w.heap.size w w':=by
 unfold ap.f at h
 by_cases c1:a0=1
 · rw [if_pos c1] at h
   subst c1;obtain⟨parts,hp,h⟩:=Option.bind_eq_some_iff.mp h;exact rR k a1 parts r1 r2 w hp h hv
 · rw [if_neg c1] at h
   by_cases c2:a0=2∨a0=5
   · rw [if_pos c2] at h
     exact qX k a0 c2 a1 r1 r2 w h hv
   · rw [if_neg c2] at h
     by_cases c6:a0=6
     · rw [if_pos c6] at h
       subst c6;exact pq k a1 r1 r2 w h hv
     · rw [if_neg c6] at h
       by_cases g0:a0=15
       · rw [if_pos g0] at h
         subst g0;exact qS k a1 r1 r2 w h hv
       · rw [if_neg g0] at h
         by_cases g1:a0=16
         · rw [if_pos g1] at h
           subst g1;exact qp k a1 r1 r2 w h
         · rw [if_neg g1] at h
           obtain⟨rfl,rfl⟩:=Prod.mk.inj (Option.some.inj h);exact mZ a0 c1 (fun e=>c2 (.inl e)) (fun e=>c2 (.inr e)) c6 g0 g1 a1 w
theorem aA.view(k:Nat)(A0:Option Addr)(c0:Nat)(l0:List (S45))(r:List (S45))(w:World)(hr0:Kd.C k45 w A0 l0.length l0)(hc0:l0.length≤c0)(h:aA.f k l0=some r):
 Calls Tryz.prog 108 #[.slice A0 l0.length c0] w fun e w'=> ∃ n:Nat,e = .returned (.slice A0 n c0)∧n≤l0.length∧r=l0.take n∧Below w.heap.size w w':=by
 have hu45:=Tryz.underlying45;have HO0:=a0_ hr0;have HC0:=a0_ hc0;have HB:=a0_ (Below.refl w.heap.size w);clear hr0 hc0;have H:=h;clear h;unfold aA.f at H;have H':=a0_ H;clear H;go_enter Tryz.func108,Tryz.ntmps108;go_wp2;go_loopg [3] k (fun kq v3 w'=> ∃ (x3_1:Int),v3 = .int .i64 x3_1∧ab (aA.l0 kq l0 x3_1=some r)∧ab (kq≤k)∧ab (Kd.C k45 w' A0 l0.length l0)∧ab (Below w.heap.size w w'))
 case atStart=>exact⟨(wrap64 ((l0.length:Int)-1)),rs_,H',⟨Nat.le_refl _⟩,⟨kD_ HO0.out⟩,⟨ay⟩⟩
 case round=>
  clear H';obtain⟨x3_1,rfl,HA,HK1,HO_0,HB⟩:=hrel
  cases gk with
  | zero=>exact absurd HA.out (by simp[aA.l0])
  | succ k1=>
   have H:=HA.out;clear HA;simp only[aA.l0]at H;have HC3:=a0_ H;clear H;go_upto_region 2 with(fail);go_cut [21] (fun y5 wc=> ∃ (kq:Nat) (g0:Bool),y5 = .bool g0∧ab (aA.j1 kq l0 x3_1 g0=some r)∧ab (kq≤k1)∧ab (Kd.C k45 wc A0 l0.length l0)∧ab (Below w.heap.size w wc))
   case first=>
    have H:=HC3.out;clear HC3
    by_cases c4:x3_1>0
    case neg=>
     rw[if_neg c4]at H;have c4b0:=decide_eq_false c4;clear c4
     (first|rw[c4b0]|(simp only[bu,bI];rw[c4b0])|skip)
     have H':=a0_ H;clear H
     try go_wp2
     replace HO_0:=a0_ (Kd.C_drew HO_0.out);replace HB:=a0_ (bp HB.out)
     refine fN 15 [] ht_ (fun hHeld=>?_);refine ck aA.tab2 aA.bits2 (fun HT_ HW_=>?_)
     generalize wr.drew=b2 at HO_0 HB hHeld ⊢
     refine p_ 0 7 ?_
     refine p_ 1 8 ?_
     refine p_ 2 9 ?_
     refine s_ 3 10 ?_
     refine s_ 4 11 ?_
     refine s_ 5 12 ?_
     refine s_ 6 13 ?_
     refine s_ 7 14 ?_
     refine s_ 8 15 ?_
     refine s_ 9 16 ?_
     refine s_ 10 17 ?_
     refine s_ 11 18 ?_
     refine s_ 12 19 ?_
     refine s_ 13 20 ?_
     refine p_ 14 21 ?_
     refine dZ (db HT_.out (by kernel_rfl)) ?_
     try go_wp2
     go_meet
     case rel=>exact⟨_,(false),rs_,H',jl_ HK1,⟨kD_ HO_0.out⟩,⟨ay⟩⟩
    rw[if_pos c4]at H;have c4b0:=decide_eq_true c4;clear c4
    (first|rw[c4b0]|(simp only[bu,bI];rw[c4b0])|skip)
    obtain⟨ji5,hji5⟩:∃ j_:Int,(wrap64 (x3_1-1))=j_:=⟨_,rfl⟩
    (first|rw[hji5]at H|simp only[hji5]at H)
    have hji5w:(IntKind.i64.wrap (x3_1-1))=ji5:=(bu _).trans hji5
    by_cases c6:0≤(ji5)
    case neg=>
     rw[if_neg c6]at H;exact absurd H (by simp)
    rw[if_pos c6]at H;have c6b0:=decide_eq_true c6;clear c6
    by_cases c7:(ji5)<(l0.length:Int)
    case neg=>
     rw[if_neg c7]at H;exact absurd H (by simp)
    rw[if_pos c7]at H;have c7b0:=decide_eq_true c7;clear c7
    by_cases c8:0≤x3_1
    case neg=>
     rw[if_neg c8]at H;exact absurd H (by simp)
    rw[if_pos c8]at H;have c8b0:=decide_eq_true c8;clear c8
    by_cases c9:x3_1<(l0.length:Int)
    case neg=>
     rw[if_neg c9]at H;exact absurd H (by simp)
    rw[if_pos c9]at H;have c9b0:=decide_eq_true c9;clear c9;obtain⟨j3,y6,H⟩:=ob_ H;have H':=a0_ H;clear H
    try go_wp2
    replace HO_0:=a0_ (Kd.C_drew HO_0.out);replace HB:=a0_ (bp HB.out);have j9:=t0_ ((ji5));have y0:=tl_ ((ji5)) (l0.length);obtain⟨j5,y1,g1,g2,g3,g4⟩:=dN HO_0.out (ji5) (of_eq_true j9) (of_eq_true y0);cases y1;have y2:=t0_ (x3_1);have y3:=tl_ (x3_1) (l0.length);obtain⟨j6,y4,g5,g6,g7,g8⟩:=dN HO_0.out x3_1 (of_eq_true y2) (of_eq_true y3);obtain rfl:j5=j6:=(by injection y4)
    refine fN 15 [] (c4_ g1 g2 g3 g4 (e4_ g5 g6 g7 g8)) (fun hHeld=>?_);refine ck aA.tab2 aA.bits2 (fun HT_ HW_=>?_)
    generalize wr.drew=b3 at HO_0 HB g1 g2 g3 g4 g5 g6 g7 g8 hHeld ⊢
    refine p_ 0 7 ?_
    refine p_ 1 8 ?_
    refine p_ 2 9 ?_
    refine p_ 3 10 ?_
    refine p_ 4 11 ?_
    refine p_ 5 12 ?_
    refine p_ 6 13 ?_
    refine p_ 8 15 ?_
    refine p_ 9 16 ?_
    refine p_ 10 17 ?_
    refine t_ 7 14 ?_
    refine t_ 11 18 ?_
    refine dg 12 (some 19) (fun K hK=>?_)
    refine dm Tryz.func65 (by kernel_rfl) rfl #[.agg #[.string ((ae l0 (ji5)).f0),.int .i64 ((ae l0 (ji5)).f1),.int .i64 ((ae l0 (ji5)).f2),.string ((ae l0 (ji5)).f3)],.agg #[.string ((ae l0 x3_1).f0),.int .i64 ((ae l0 x3_1).f1),.int .i64 ((ae l0 x3_1).f2),.string ((ae l0 x3_1).f3)]] (by rfl) rfl rfl (by(try simp only[List.map_toArray,List.map_cons,List.map_nil]);first|done|(simp only[hji5];rfl)|rfl|(simp only[List.length_drop,List.length_take];rfl)) ?_
    with_reducible refine(bV.c k1 ((ae l0 (ji5)).f0) ((ae l0 (ji5)).f1) ((ae l0 (ji5)).f2) ((ae l0 (ji5)).f3) ((ae l0 x3_1).f0) ((ae l0 x3_1).f1) ((ae l0 x3_1).f2) ((ae l0 x3_1).f3) j3 _ y6.out).mono ?_
    rintro e b4 ⟨rfl,hb⟩;have HS0_:=(hb.cell (World.block_lt_of_cell? _ _ (hHeld.1))).trans (hHeld.1);have HS1_:=(hb.cell (World.block_lt_of_cell? _ _ (hHeld.2.1))).trans (hHeld.2.1);have HS2_:=(hb.cell (World.block_lt_of_cell? _ _ (hHeld.2.2.1))).trans (hHeld.2.2.1);have HS3_:=(hb.cell (World.block_lt_of_cell? _ _ (hHeld.2.2.2.1))).trans (hHeld.2.2.2.1);have HS4_:=(hb.cell (World.block_lt_of_cell? _ _ (hHeld.2.2.2.2.1))).trans (hHeld.2.2.2.2.1);have HS5_:=(hb.cell (World.block_lt_of_cell? _ _ (hHeld.2.2.2.2.2.1))).trans (hHeld.2.2.2.2.2.1);have HS6_:=(hb.cell (World.block_lt_of_cell? _ _ (hHeld.2.2.2.2.2.2.1))).trans (hHeld.2.2.2.2.2.2.1);have HS7_:=(hb.cell (World.block_lt_of_cell? _ _ (hHeld.2.2.2.2.2.2.2))).trans (hHeld.2.2.2.2.2.2.2);refine⟨_,rfl,?_⟩;replace HO_0:=a0_ (Kd.C_below (kD_ HO_0.out) hb);replace HB:=a0_ (aa ay hb)
    (try clear hb)
    (try clear hb2)
    (try clear hk)
    (try clear hi)
    refine hK.out _ _ (c1_ HS0_ (c1_ HS1_ (c1_ HS2_ (c1_ HS3_ (c1_ HS4_ (c1_ HS5_ (c1_ HS6_ (e1_ HS7_)))))))).out (fun hHeld=>?_);clear hK K
    refine cU ?_
    refine p_ 13 20 ?_
    refine p_ 14 21 ?_
    refine dZ (db HT_.out (by kernel_rfl)) ?_
    try go_wp2
    go_meet
    case rel=>exact⟨_,((j3==0)),rs_,H',jl_ HK1,⟨kD_ HO_0.out⟩,⟨ay⟩⟩
   case rest=>
    clear HC3
    try clear c1
    try clear p2
    try clear p2
    obtain⟨kq,g0,rfl,HA,HJ2,HO_0,HB⟩:=hcut
    cases kq with
    | zero=>exact absurd HA.out (by simp[aA.j1])
    | succ kj2=>
     have H:=HA.out;clear HA;simp only[aA.j1]at H
     by_cases j4:g0=true
     case pos=>
      subst j4;rw[if_pos rfl]at H;have H':=a0_ H;clear H;go_wp2;go_roundg kj2
      case measure=>have:=HK1.out;have:=HJ2.out;omega
      case rel=>exact⟨(wrap64 (x3_1-1)),rs_,H',jm_ HK1 HJ2,⟨kD_ HO_0.out⟩,⟨ay⟩⟩
     replace j4:=Bool.eq_false_iff.mpr j4;subst j4;rw[if_neg ff_]at H
     by_cases j0:0≤x3_1
     case neg=>
      rw[if_neg j0]at H;exact absurd H (by simp)
     rw[if_pos j0]at H;have y7:=eq_true j0;have y8:=decide_eq_true j0;clear j0
     by_cases j2:x3_1≤(l0.length:Int)
     case neg=>
      rw[if_neg j2]at H;exact absurd H (by simp)
     rw[if_pos j2]at H;have y9:=eq_true j2;have b0:=decide_eq_true j2;clear j2;obtain⟨b1,g9⟩:∃ y_:List (S45),y_=(l0.take (x3_1:Int).toNat):=⟨_,rfl⟩;rw[← g9]at H;have j7:=a0_ g9;clear g9;obtain rfl:=Option.some.inj H;have j8:(x3_1:Int)≤((l0.length:Int):Int):=dr;obtain⟨i017,hi017,_,hsz17,_⟩:=info_parts dz;have hcut17:=gI (P:=Tryz.prog) 27 45 .i64 Tryz.underlying27 hi017 A0 l0.length c0 x3_1 (dr) j8 HC0.out
     have hle:(x3_1:Int).toNat≤l0.length:=by omega
     replace j8:=eq_true j8;go_wp2;go_ret;exact⟨_,rr_,hle,j7.out,ay⟩
end Go.Proofs.YtiegkjimpclmaaaGreatDoor.P
namespace Go.Proofs.YtiegkjimpclmaaaGreatDoor.Pure
open Go.Proofs.YtiegkjimpclmaaaGreatDoor.P
theorem gS(s:ByteArray)(hs:s.size<549755813888): Ev (fun k=>dv.f k s) (cO s.data.toList):=by
 obtain⟨r,h1,h2⟩:=qL s hs;refine Ev.congr (f:=fun k=>(aw.f k s).bind fun bt=>some bt.2) (fun k=>rfl) (Ev.bind h1 ?_);rw[h2];exact Ev.now _
theorem ec{l:List UInt8}(h:cO l=true): l.length≤60:=by
 unfold cO at h;simp at h;exact h.1
end Go.Proofs.YtiegkjimpclmaaaGreatDoor.Pure
