/- FnCutTo: part 15 of 17 of my texts for this claim, joined; the theorem stands in the last. Conditions: none beyond the statement's. -/
import Derived.Test.YtiegkjimpclmaaaGreatDoorMFnCutTox12
open Go.RowKit Go.Proofs.YtiegkjimpclmaaaGreatDoorW.PrintWords Go.Proofs.YtiegkjimpclmaaaGreatDoorW.PrintLast Go.Proofs.YtiegkjimpclmaaaGreatDoorW.PrintMore
set_option linter.unusedVariables false
set_option linter.unusedSimpArgs false
set_option maxHeartbeats 8000000
set_option maxRecDepth 100000
namespace Go.Proofs.YtiegkjimpclmaaaGreatDoor.P
section
variable {w W W':World} {bs:List (Nat×Array Value×TypeId)} {ms:List MV} {lo hi lo' hi' c6 c7 d6 d7 k:Nat} {A6 A7 D6 D7:Option Addr} {x y x' y':List mU} {p1 p4 p6 q1 q4 q6 z:Int} {p2 p3 q2 q3 b:Bool} {p5 q5:ByteArray}
theorem rW(a:Al w W bs ms)(hx:(⟨.slice A6 x.length c6,.slice A7 y.length c7,lo,hi,x,y⟩:MV)∈ms)(he:bd.f k p1 p2 p3 p4 p5 p6 x y z=some (q1,q2,q3,q4,q5,q6,x',y',b)):
    Calls Tryz.prog 39 #[.agg #[.int .i64 p1,.bool p2,.bool p3,.int .i64 p4,.string p5,.int .i64 p6,.slice A6 x.length c6,.slice A7 y.length c7],.int .i64 z] W fun e W'=> ∃ A6 c6 A7 c7,e = .returned (.tuple #[.agg #[.int .i64 q1,.bool q2,.bool q3,.int .i64 q4,.string q5,.int .i64 q6,.slice A6 x'.length c6,.slice A7 y'.length c7],.bool b])∧Al w W' bs (⟨.slice A6 x'.length c6,.slice A7 y'.length c7,W.heap.size,W'.heap.size,x',y'⟩::ms):=
  (bd.c k p1 p2 p3 p4 p5 p6 A6 c6 x A7 c7 y z q1 q2 q3 q4 q5 q6 x' y' b W (a.rd hx).1.1 (a.rd hx).1.2.2 (a.rd hx).2.1 (a.rd hx).2.2.2 he).mono fun e W' h=>by
    obtain⟨u,v,rfl,h0,h1,hb⟩:=h;obtain⟨A6,c6,rfl⟩:=Kd.R_slice h0;obtain⟨A7,c7,rfl⟩:=Kd.R_slice h1;exact⟨A6,c6,A7,c7,rfl,a.rows hb h0 h1⟩
theorem rI(a:Al w W bs ms)(hv:Vars w)(hx:(⟨.slice A6 x.length c6,.slice A7 y.length c7,lo,hi,x,y⟩:MV)∈ms)(he:aC.f k p1 p2 p3 p4 p5 p6 x y z=some (q1,q2,q3,q4,q5,q6,x',y',b)):
    Calls Tryz.prog 41 #[.agg #[.int .i64 p1,.bool p2,.bool p3,.int .i64 p4,.string p5,.int .i64 p6,.slice A6 x.length c6,.slice A7 y.length c7],.int .i64 z] W fun e W'=> ∃ A6 c6 A7 c7,e = .returned (.tuple #[.agg #[.int .i64 q1,.bool q2,.bool q3,.int .i64 q4,.string q5,.int .i64 q6,.slice A6 x'.length c6,.slice A7 y'.length c7],.bool b])∧Al w W' bs (⟨.slice A6 x'.length c6,.slice A7 y'.length c7,W.heap.size,W'.heap.size,x',y'⟩::ms):=
  (aC.c k p1 p2 p3 p4 p5 p6 A6 c6 x A7 c7 y z q1 q2 q3 q4 q5 q6 x' y' b W (a.rd hx).1.1 (a.rd hx).1.2.2 (a.rd hx).2.1 (a.rd hx).2.2.2 he (Vars.below hv a.b)).mono fun e W' h=>by
    obtain⟨u,v,rfl,h0,h1,hb⟩:=h;obtain⟨A6,c6,rfl⟩:=Kd.R_slice h0;obtain⟨A7,c7,rfl⟩:=Kd.R_slice h1;exact⟨A6,c6,A7,c7,rfl,a.rows hb h0 h1⟩
theorem rg{A:Option Addr}{c:Nat}{l:List Int}(a:Al w W bs ms)(hr:Kd.C (Kd.int .u8) w A l.length l)(hc:l.length≤c)(he:dh.f k l=some (q1,q2,q3,q4,q5,q6,x',y',z)):
    Calls Tryz.prog 49 #[.slice A l.length c] W fun e W'=> ∃ A6 c6 A7 c7,e = .returned (.tuple #[.agg #[.int .i64 q1,.bool q2,.bool q3,.int .i64 q4,.string q5,.int .i64 q6,.slice A6 x'.length c6,.slice A7 y'.length c7],.int .i64 z])∧Al w W' bs (⟨.slice A6 x'.length c6,.slice A7 y'.length c7,W.heap.size,W'.heap.size,x',y'⟩::ms):=
  (dh.c k A c l q1 q2 q3 q4 q5 q6 x' y' z W (Kd.C_below hr a.b) hc he).mono fun e W' h=>by
    obtain⟨u,v,rfl,h0,h1,hb⟩:=h;obtain⟨A6,c6,rfl⟩:=Kd.R_slice h0;obtain⟨A7,c7,rfl⟩:=Kd.R_slice h1;exact⟨A6,c6,A7,c7,rfl,a.rows hb h0 h1⟩
theorem pT(a:Al w W bs ms)(hx:(⟨.slice A6 x.length c6,.slice A7 y.length c7,lo,hi,x,y⟩:MV)∈ms)(hx':(⟨.slice D6 x'.length d6,.slice D7 y'.length d7,lo',hi',x',y'⟩:MV)∈ms)(he:di.f k p1 p2 p3 p4 p5 p6 x y q1 q2 q3 q4 q5 q6 x' y'=some b):
    Calls Tryz.prog 50 #[.agg #[.int .i64 p1,.bool p2,.bool p3,.int .i64 p4,.string p5,.int .i64 p6,.slice A6 x.length c6,.slice A7 y.length c7],.agg #[.int .i64 q1,.bool q2,.bool q3,.int .i64 q4,.string q5,.int .i64 q6,.slice D6 x'.length d6,.slice D7 y'.length d7]] W fun e W'=>e = .returned (.bool b)∧Al w W' bs ms:=
  (di.c k p1 p2 p3 p4 p5 p6 A6 c6 x A7 c7 y q1 q2 q3 q4 q5 q6 D6 d6 x' D7 d7 y' b W (a.rd hx).1.1 (a.rd hx).1.2.2 (a.rd hx).2.1 (a.rd hx).2.2.2 (a.rd hx').1.1 (a.rd hx').1.2.2 (a.rd hx').2.1 (a.rd hx').2.2.2 he).mono fun e W' h=>⟨h.1,a.below h.2⟩
theorem sF{B:ByteArray}(a:Al w W bs ms)(hv:Vars w)(hx:(⟨.slice A6 x.length c6,.slice A7 y.length c7,lo,hi,x,y⟩:MV)∈ms)(he:dy.f k p1 p2 p3 p4 p5 p6 x y=some (B,b)):
    Calls Tryz.prog 51 #[.agg #[.int .i64 p1,.bool p2,.bool p3,.int .i64 p4,.string p5,.int .i64 p6,.slice A6 x.length c6,.slice A7 y.length c7]] W fun e W'=>e = .returned (.tuple #[.string B,.bool b])∧Al w W' bs ms:=
  (dy.c k p1 p2 p3 p4 p5 p6 A6 c6 x A7 c7 y B b W (a.rd hx).1.1 (a.rd hx).1.2.2 (a.rd hx).2.1 (a.rd hx).2.2.2 he (Vars.below hv a.b)).mono fun e W' h=>⟨h.1,a.below h.2⟩
theorem Al.take{n:Nat}{t:List mU}(h:Kd.C k45 W A6 x.length x)(hn:n≤x.length)(ht:t=x.take n): Kd.C k45 W A6 t.length t∧t.length=n:=by
  subst ht
  have hl:(x.take n).length=n:=by rw[List.length_take];omega
  exact⟨Kd.C_take h hn,hl⟩
theorem hp_{S:World→Prop}{w:World}{g:Nat}{o}(h:w.heap[g]? = o)(k:Hs_ S w): Hs_ (fun w'=>w'.heap[g]? = o∧S w') w:=⟨h,k.out⟩
theorem tH_{P:Program}{md:Region.Mode}{ops:Array Oper}{Q:Exit→Act→World→Prop}{S:World→Prop}{ds:List Nat}{fuel:Nat}{l:Array Bool}{a a':Act}{w:World}{oi:Oper}{v:Value}(i N:Nat)
    (h:aZ P md ops Q S ds fuel (l.setIfInBounds i true) a' w) (hi:ops[i]? = some oi:=by rfl) (hN:oi.dst=some N:=by rfl) (hc:jl md ops ds l (l.setIfInBounds i true) i=true:=by exact iK HT_.out HW_.out (by kernel_rfl))
    (hQ:∀ c a w,Q (.panic c) (a.put oi.dst v) w→Q (.panic c) a w:=by exact fun _ _ _ h=>h) (hy:YieldsIf P ops S oi v a:=by exact Or.inl ⟨by rfl,by(rintro w' ⟨h1,h2,hs_⟩;obtain⟨_,_,_,_,_,_,_,_,_,_,_,_,_,_,_,_⟩:=bT h1;obtain⟨_,_,_,_,_,_,_,_,_,_,_,_,_,_,_,_⟩:=bT h2;(repeat(refine And.elim (fun _ hs_=>?_) hs_));go_simp;with_reducible rfl)⟩)
    (hS:S w:=by exact hHeld) (ha:a.put (some N) v=a':=by simp only[Act.put,List.setIfInBounds_toArray,List.set_cons_zero,List.set_cons_succ,bu,bI];rfl):aZ P md ops Q S ds (fuel+1) l a w:=take_ _ hi hN hc hQ hy hS ha h
end
def bA.f (k : Nat) (l : List Int) : Prop := (l.length : Int) > 1048576 ∨ (¬ (l.length : Int) > 1048576 ∧ ∃ m1 m2 m3 m4 m5 m6 m7 m8 z x1 x2 x3 x4 x5 x6 x7 x8 b, dh.f k l = some (m1, m2, m3, m4, m5, m6, m7, m8, z) ∧ aC.f k m1 m2 m3 m4 m5 m6 m7 m8 z = some (x1, x2, x3, x4, x5, x6, x7, x8, b) ∧ bd.f k m1 m2 m3 m4 m5 m6 m7 m8 z = some (x1, x2, x3, x4, x5, x6, x7, x8, b) ∧
  di.f k x1 x2 x3 x4 x5 x6 x7 x8 x1 x2 x3 x4 x5 x6 x7 x8=some true∧(b=false→x2=false)∧(b=true→∃ B,dy.f k x1 x2 x3 x4 x5 x6 x7 x8=some (B,true)∧(B.size:Int)≤z∧m7.length≤1048576∧x7.length≤m7.length∧x8.length≤m8.length∧bw.f k x7 (m7.take x7.length)=some true∧bw.f k x8 (m8.take x8.length)=some true ∧
  x3=(m3||(decide (x7.length<m7.length)||decide (x8.length<m8.length)))∧(x7.length<m7.length→x8.length=0)∧(∀ n:Nat,n+1=x7.length→x7.length<m7.length→(ae m7 (n:Int)).f0.toList=(ae m7 (x7.length:Int)).f0.toList→¬ (ae m7 (n:Int)).f1=(ae m7 (x7.length:Int)).f1) ∧
  aC.f k x1 x2 x3 x4 x5 x6 x7 x8 z=some (x1,x2,x3,x4,x5,x6,x7,x8,true)))
def bA.T13: Bool×List (List Nat×List Nat):=(true,[([],[]),([0],[0]),([1],[1]),([2],[2]),([3,2],[2,3]),([2],[2]),([4,5,2],[2,4,5]),([2,6],[2,6]),([7,2],[7]),([8],[8]),([8],[8]),([10,8],[8,10]),([11,8],[8,11]),([9,12,8],[8,9,12]),([8,13],[8,13]),([14,8],[14]),([15],[15]),([15],[15]),([17,15],[15,17]),([18,15],[15,18]),([16,19,15],[15,16,19]),([15,20],[15,20]),([21,15],[21]),([22],[22]),([23,22],[22,23]),([22],[22]),([25,22],[22,25]),([22],[22]),([26,27,22],[22,26,27]),([24,28,22,22],[22,24,28]),([29,22],[22,29]),([22,30],[22,30]),([31,29],[31]),([32],[32]),([33,32],[32,33]),([32],[32]),([35,32],[32,35]),([32],[32]),([36,37,32],[32,36,37]),([34,38,32,32],[32,34,38]),([39,32],[32,39]),([32,40],[32,40])])
def bA.B13: List Nat:=[0,1,3,7,15,7,63,127,255,511,511,1535,3583,8191,16383,32767,65535,65535,196607,458751,1048575,2097151,4194303,8388607,16777215,8388607,41943039,8388607,243269631,536870911,1073741823,2147483647,4294967295,8589934591,17179869183,8589934591,42949672959,8589934591,249108103167,549755813887,1099511627775,2199023255551]
theorem bA.tab13: eA .any (fc Tryz.f9 13)=bA.T13:=by kernel_rfl
theorem bA.bits13: du bA.T13.2 bA.B13=true:=by kernel_rfl
def bA.T18: Bool×List (List Nat×List Nat):=(true,[([],[]),([0],[0]),([1],[1]),([2],[2]),([2],[2]),([4,2],[2,4]),([5,2],[2,5]),([3,6,2],[2,3,6]),([2,7],[2,7]),([8,2],[8]),([9],[9]),([10,9],[9,10]),([9],[9]),([12,9],[9,12]),([11,13,9],[9,11,13]),([14,9],[9,14]),([15,9],[9,15]),([9],[9]),([17,9],[9,17]),([9],[9]),([18,19,9],[9,18,19]),([20,9],[9,20]),([21,9],[9,21]),([16,22,9],[9,16,22]),([9,23],[9,23]),([24,9],[24]),([25],[25]),([26,25],[25,26]),([25],[25]),([28,25],[25,28]),([27,29,25],[25,27,29]),([30,25],[25,30]),([31,25],[25,31]),([25],[25]),([33,25],[25,33]),([25],[25]),([34,35,25],[25,34,35]),([36,25],[25,36]),([37,25],[25,37]),([32,38,25],[25,32,38]),([25,39],[25,39])])
def bA.B18: List Nat:=[0,1,3,7,7,23,55,127,255,511,1023,2047,1023,5119,16383,32767,65535,1023,132095,1023,918527,1967103,4064255,8388607,16777215,33554431,67108863,134217727,67108863,335544319,1073741823,2147483647,4294967295,67108863,8657043455,67108863,60196651007,128916127743,266355081215,549755813887,1099511627775]
theorem bA.tab18: eA .any (fc Tryz.f9 18)=bA.T18:=by kernel_rfl
theorem bA.bits18: du bA.T18.2 bA.B18=true:=by kernel_rfl
theorem bA.c(k:Nat)(A0:Option Addr)(c0:Nat)(l:List Int)(r_:Bool)(w:World)(hr0:Kd.C (Kd.int .u8) w A0 l.length l)(hc0:l.length≤c0)(h:bA.f k l)(hv_:Vars w:=by first|assumption)(hr_:r_=true:=by rfl):
    Calls Tryz.prog 9 #[.slice A0 l.length c0] w fun e w'=>e = .returned (.bool r_)∧Below w.heap.size w w':=by
  subst hr_;have R0:=a0_ hr0;have C0:=a0_ hc0;have HV:=a0_ hv_;have HA:=a0_ (Al.new w);clear hr0 hc0 hv_
  rcases h with h|⟨h,m1,m2,m3,m4,m5,m6,m7,m8,z,x1,x2,x3,x4,x5,x6,x7,x8,b,e1,e2,e3,e4,hf,ht⟩
  · have hd := decide_eq_true h
    have hd':decide (1048576<l.length)=true:=decide_eq_true (by omega);clear h;go_enter Tryz.func9,Tryz.ntmps9;go_wp2;go_ret;exact⟨rfl,HA.out.b⟩
  have hd:=decide_eq_false h;have hd':decide (1048576<l.length)=false:=decide_eq_false (by omega);have E1:=a0_ e1;have E2:=a0_ e2;have E3:=a0_ e3;have E4:=a0_ e4;clear e1 e2 e3 e4 h;cases b
  case false=>
    have hx:=hf rfl;clear hf ht;subst hx;go_enter Tryz.func9,Tryz.ntmps9
    go_wp2_with (first
      | ((with_reducible refine gt_ 49 rfl ?_);refine gs_ 21 Tryz.func49 #[.slice A0 l.length c0] ?_;refine(rg HA.out R0.out C0.out E1.out).mono ?_;rintro e w1 ⟨D6,d6,D7,d7,rfl,hA⟩;refine⟨_,rfl,?_⟩;replace HA:=a0_ hA;clear hA)
      | ((with_reducible refine ax (N:=3) rfl ?_);(try(refine bP (by rfl) ?_;dsimp only));refine cm 3 #[.int .i64 0,.bool false,.bool false,.int .i64 0,.string (⟨#[]⟩:ByteArray),.int .i64 0,.slice none 0 0,.slice none 0 0] 62 (fun gM hg w2 hbox hb=>?_);have HF:=a0_ (HA.out.far hg);replace HA:=a0_ (HA.out.box hg hbox hb (by decide));clear hb hbox hg;obtain⟨_,_,_,_,_,_,_,_,_,_,_,_,_,_,_,_⟩:=bT (HA.out.k _ (.head _)))
      | ((with_reducible refine gt_ 41 rfl ?_);refine gs_ 27 Tryz.func41 #[.agg #[.int .i64 m1,.bool m2,.bool m3,.int .i64 m4,.string m5,.int .i64 m6,.slice D6 m7.length d6,.slice D7 m8.length d7],.int .i64 z] ?_;refine(rI (HA.out.put8 HF.out (by decide)) HV.out (.head _) E2.out).mono ?_;rintro e w3 ⟨G6,g6,G7,g7_,rfl,hA⟩;refine⟨_,rfl,?_⟩;replace HA:=a0_ hA;clear hA HF)
      | ((with_reducible refine ax (N:=5) rfl ?_);(try(refine bP (by rfl) ?_;dsimp only));refine cm 5 #[.int .i64 0,.bool false,.bool false,.int .i64 0,.string (⟨#[]⟩:ByteArray),.int .i64 0,.slice none 0 0,.slice none 0 0] 62 (fun gX hg w4 hbox hb=>?_);have HF:=a0_ (HA.out.far hg);replace HA:=a0_ (HA.out.box hg hbox hb (by decide));clear hb hbox hg;have f1:=HF.out _ (.head _);have f2:=f1.symm;obtain⟨_,_,_,_,_,_,_,_,_,_,_,_,_,_,_,_⟩:=bT (HA.out.k _ (.head _));obtain⟨_,_,_,_,_,_,_,_,_,_,_,_,_,_,_,_⟩:=bT (HA.out.k _ (.tail _ (.head _))))
      | ((with_reducible refine gt_ 39 rfl ?_);refine gs_ 33 Tryz.func39 #[.agg #[.int .i64 m1,.bool m2,.bool m3,.int .i64 m4,.string m5,.int .i64 m6,.slice D6 m7.length d6,.slice D7 m8.length d7],.int .i64 z] ?_;refine(rW (HA.out.put8 HF.out (by decide)) (.tail _ (.head _)) E3.out).mono ?_;rintro e w5 ⟨I6,i6,I7,i7,rfl,hA⟩;refine⟨_,rfl,?_⟩;replace HA:=a0_ hA;clear hA HF)
      | ((with_reducible refine ax (N:=7) rfl ?_);(try(refine bP (by rfl) ?_;dsimp only));refine cm 7 #[.int .i64 0,.bool false,.bool false,.int .i64 0,.string (⟨#[]⟩:ByteArray),.int .i64 0,.slice none 0 0,.slice none 0 0] 62 (fun gY hg w6 hbox hb=>?_);have HF:=a0_ (HA.out.far hg);replace HA:=a0_ (HA.out.box hg hbox hb (by decide));clear hb hbox hg;have f3:=HF.out _ (.head _);have f4:=f3.symm;have f5:=HF.out _ (.tail _ (.head _));have f6:=f5.symm;obtain⟨_,_,_,_,_,_,_,_,_,_,_,_,_,_,_,_⟩:=bT (HA.out.k _ (.head _));obtain⟨_,_,_,_,_,_,_,_,_,_,_,_,_,_,_,_⟩:=bT (HA.out.k _ (.tail _ (.head _)));obtain⟨_,_,_,_,_,_,_,_,_,_,_,_,_,_,_,_⟩:=bT (HA.out.k _ (.tail _ (.tail _ (.head _)))))
      | (go_at_call 50;refine(pT (HA.out.put8 HF.out (by decide)) (.tail _ (.head _)) (.head _) E4.out).mono ?_;rintro e w7 ⟨rfl,hA⟩;replace HA:=a0_ hA;clear hA HF;obtain⟨_,_,_,_,_,_,_,_,_,_,_,_,_,_,_,_⟩:=bT (HA.out.k _ (.tail _ (.head _)));obtain⟨_,_,_,_,_,_,_,_,_,_,_,_,_,_,_,_⟩:=bT (HA.out.k _ (.tail _ (.tail _ (.head _))))))
    go_ret;exact⟨rfl,HA.out.b⟩
  obtain⟨B,e5,hB,hm,h7,h8,e6,e7,h3,h0,hn,e8⟩:=ht rfl;clear ht hf;obtain⟨y7,hy7⟩:∃ y_:List mU,y_=m7.take x7.length:=⟨_,rfl⟩;obtain⟨y8,hy8⟩:∃ y_:List mU,y_=m8.take x8.length:=⟨_,rfl⟩;rw[← hy7]at e6;rw[← hy8]at e7;have Y7:=a0_ hy7;have Y8:=a0_ hy8;clear hy7 hy8;have E5:=a0_ e5;have E6:=a0_ e6;have E7:=a0_ e7;have E8:=a0_ e8;have g3:=a0_ h3;have g0:=a0_ h0;have gn:=a0_ hn;have g7:=a0_ h7;have g8:=a0_ h8;have gm:=a0_ hm;have kB:=decide_eq_false (show ¬ (B.size:Int)>z by omega);have k7:=decide_eq_false (show ¬ (x7.length:Int)>(m7.length:Int) by omega);have k7':decide (m7.length<x7.length)=false:=decide_eq_false (by omega);have k8:=decide_eq_false (show ¬ (x8.length:Int)>(m8.length:Int) by omega);have k8':decide (m8.length<x8.length)=false:=decide_eq_false (by omega);clear e5 e6 e7 e8 h3 h0 hn h7 h8 hB hm;go_enter Tryz.func9,Tryz.ntmps9
  go_wp2_with (first
    | ((with_reducible refine gt_ 49 rfl ?_);refine gs_ 21 Tryz.func49 #[.slice A0 l.length c0] ?_;refine(rg HA.out R0.out C0.out E1.out).mono ?_;rintro e w1 ⟨D6,d6,D7,d7,rfl,hA⟩;refine⟨_,rfl,?_⟩;replace HA:=a0_ hA;clear hA)
    | ((with_reducible refine ax (N:=3) rfl ?_);(try(refine bP (by rfl) ?_;dsimp only));refine cm 3 #[.int .i64 0,.bool false,.bool false,.int .i64 0,.string (⟨#[]⟩:ByteArray),.int .i64 0,.slice none 0 0,.slice none 0 0] 62 (fun gM hg w2 hbox hb=>?_);have HF:=a0_ (HA.out.far hg);replace HA:=a0_ (HA.out.box hg hbox hb (by decide));clear hb hbox hg;obtain⟨_,_,_,_,_,_,_,_,_,_,_,_,_,_,_,_⟩:=bT (HA.out.k _ (.head _)))
    | ((with_reducible refine gt_ 41 rfl ?_);refine gs_ 27 Tryz.func41 #[.agg #[.int .i64 m1,.bool m2,.bool m3,.int .i64 m4,.string m5,.int .i64 m6,.slice D6 m7.length d6,.slice D7 m8.length d7],.int .i64 z] ?_;refine(rI (HA.out.put8 HF.out (by decide)) HV.out (.head _) E2.out).mono ?_;rintro e w3 ⟨G6,g6,G7,g7_,rfl,hA⟩;refine⟨_,rfl,?_⟩;replace HA:=a0_ hA;clear hA HF)
    | ((with_reducible refine ax (N:=5) rfl ?_);(try(refine bP (by rfl) ?_;dsimp only));refine cm 5 #[.int .i64 0,.bool false,.bool false,.int .i64 0,.string (⟨#[]⟩:ByteArray),.int .i64 0,.slice none 0 0,.slice none 0 0] 62 (fun gX hg w4 hbox hb=>?_);have HF:=a0_ (HA.out.far hg);replace HA:=a0_ (HA.out.box hg hbox hb (by decide));clear hb hbox hg;have f1:=HF.out _ (.head _);have f2:=f1.symm;obtain⟨_,_,_,_,_,_,_,_,_,_,_,_,_,_,_,_⟩:=bT (HA.out.k _ (.head _));obtain⟨_,_,_,_,_,_,_,_,_,_,_,_,_,_,_,_⟩:=bT (HA.out.k _ (.tail _ (.head _))))
    | ((with_reducible refine gt_ 39 rfl ?_);refine gs_ 33 Tryz.func39 #[.agg #[.int .i64 m1,.bool m2,.bool m3,.int .i64 m4,.string m5,.int .i64 m6,.slice D6 m7.length d6,.slice D7 m8.length d7],.int .i64 z] ?_;refine(rW (HA.out.put8 HF.out (by decide)) (.tail _ (.head _)) E3.out).mono ?_;rintro e w5 ⟨I6,i6,I7,i7,rfl,hA⟩;refine⟨_,rfl,?_⟩;replace HA:=a0_ hA;clear hA HF)
    | ((with_reducible refine ax (N:=7) rfl ?_);(try(refine bP (by rfl) ?_;dsimp only));refine cm 7 #[.int .i64 0,.bool false,.bool false,.int .i64 0,.string (⟨#[]⟩:ByteArray),.int .i64 0,.slice none 0 0,.slice none 0 0] 62 (fun gY hg w6 hbox hb=>?_);have HF:=a0_ (HA.out.far hg);replace HA:=a0_ (HA.out.box hg hbox hb (by decide));clear hb hbox hg;have f3:=HF.out _ (.head _);have f4:=f3.symm;have f5:=HF.out _ (.tail _ (.head _));have f6:=f5.symm;obtain⟨_,_,_,_,_,_,_,_,_,_,_,_,_,_,_,_⟩:=bT (HA.out.k _ (.head _));obtain⟨_,_,_,_,_,_,_,_,_,_,_,_,_,_,_,_⟩:=bT (HA.out.k _ (.tail _ (.head _)));obtain⟨_,_,_,_,_,_,_,_,_,_,_,_,_,_,_,_⟩:=bT (HA.out.k _ (.tail _ (.tail _ (.head _)))))
    | (go_at_call 50;refine(pT (HA.out.put8 HF.out (by decide)) (.tail _ (.head _)) (.head _) E4.out).mono ?_;rintro e w7 ⟨rfl,hA⟩;replace HA:=a0_ hA;clear hA HF;obtain⟨_,_,_,_,_,_,_,_,_,_,_,_,_,_,_,_⟩:=bT (HA.out.k _ (.tail _ (.head _)));obtain⟨_,_,_,_,_,_,_,_,_,_,_,_,_,_,_,_⟩:=bT (HA.out.k _ (.tail _ (.tail _ (.head _)))))
    | ((with_reducible refine gt_ 51 rfl ?_);refine gs_ 52 Tryz.func51 #[.agg #[.int .i64 x1,.bool x2,.bool x3,.int .i64 x4,.string x5,.int .i64 x6,.slice G6 x7.length g6,.slice G7 x8.length g7_]] ?_;refine(sF HA.out HV.out (.tail _ (.head _)) E5.out).mono ?_;rintro e w8 ⟨rfl,hA⟩;refine⟨_,rfl,?_⟩;replace HA:=a0_ hA;clear hA;obtain⟨_,_,_,_,_,_,_,_,_,_,_,_,_,_,_,_⟩:=bT (HA.out.k _ (.tail _ (.tail _ (.head _))));obtain⟨_,_,_,_,_,_,_,_,_,_,_,_,_,_,_,_⟩:=bT (HA.out.k _ (.tail _ (.head _)))))
  obtain⟨i0,hi0,_,hsz,_⟩:=info_parts dz;have hcut7:=gI (P:=Tryz.prog) 27 45 .i64 Tryz.underlying27 hi0 D6 m7.length d6 (x7.length:Int) (by omega) (by have:=g7.out;omega) (HA.out.rd (.tail _ (.tail _ (.head _)))).1.2.2;have hcut8:=gI (P:=Tryz.prog) 27 45 .i64 Tryz.underlying27 hi0 D7 m8.length d7 (x8.length:Int) (by omega) (by have:=g8.out;omega) (HA.out.rd (.tail _ (.tail _ (.head _)))).2.2.2;rw[show(x7.length:Int).toNat=y7.length from(Int.toNat_natCast _).trans (Al.take (HA.out.rd (.tail _ (.tail _ (.head _)))).1.1 g7.out Y7.out).2.symm]at hcut7;rw[show(x8.length:Int).toNat=y8.length from(Int.toNat_natCast _).trans (Al.take (HA.out.rd (.tail _ (.tail _ (.head _)))).2.1 g8.out Y8.out).2.symm]at hcut8;clear hi0 hsz;have q7:=eq_true (show(x7.length:Int)≤(m7.length:Int) by have:=g7.out;omega);have q8:=eq_true (show(x8.length:Int)≤(m8.length:Int) by have:=g8.out;omega);replace HA:=a0_ HA.out.drew;refine gl (n:=42) (S:=fun w'=>w'.heap[gM]? = some (.cells #[.int .i64 m1,.bool m2,.bool m3,.int .i64 m4,.string m5,.int .i64 m6,.slice D6 m7.length d6,.slice D7 m8.length d7] 62 (0,0))∧w'.heap[gX]? = some (.cells #[.int .i64 x1,.bool x2,.bool x3,.int .i64 x4,.string x5,.int .i64 x6,.slice G6 x7.length g6,.slice G7 x8.length g7_] 62 (0,0))∧True) (ds:=[]) #[false,false,false,false,false,false,false,false,false,false,false,false,false,false,false,false,false,false,false,false,false,false,false,false,false,false,false,false,false,false,false,false,false,false,false,false,false,false,false,false,false,false] (by kernel_rfl) rfl rfl ⟨HA.out.k _ (.tail _ (.tail _ (.head _))),HA.out.k _ (.tail _ (.head _)),trivial⟩ (fun hHeld=>?_);refine ck bA.tab13 bA.bits13 (fun HT_ HW_=>?_);generalize w8.drew=w9 at HA hHeld ⊢
  refine p_ 0 61 ?_
  refine p_ 1 62 ?_
  refine p_ 2 63 ?_
  refine p_ 3 64 ?_
  refine p_ 4 65 ?_
  refine p_ 5 66 ?_
  refine p_ 6 67 ?_
  refine p_ 7 68 ?_
  refine p_ 8 69 ?_
  refine p_ 9 70 ?_
  refine p_ 10 71 ?_
  refine tH_ 11 72 ?_
  refine p_ 12 73 ?_
  refine p_ 13 74 ?_
  refine p_ 14 75 ?_
  refine p_ 15 76 ?_
  refine p_ 16 77 ?_
  refine p_ 17 78 ?_
  refine tH_ 18 79 ?_
  refine p_ 19 80 ?_
  refine p_ 20 81 ?_
  refine p_ 21 82 ?_
  refine p_ 22 83 ?_
  refine p_ 23 84 ?_
  refine p_ 25 86 ?_
  refine p_ 27 88 ?_
  refine tH_ 24 85 ?_
  refine tH_ 26 87 ?_
  refine p_ 28 89 ?_
  refine dg 29 (some 90) (fun K hK=>?_)
  refine dm Tryz.func48 (by kernel_rfl) rfl #[.slice G6 x7.length g6,.slice D6 y7.length d6] (by rfl) rfl rfl cS ?_
  refine(bw.c k G6 g6 x7 D6 d6 y7 true _ (HA.out.rd (.tail _ (.head _))).1.1 (HA.out.rd (.tail _ (.head _))).1.2.2 (Al.take (HA.out.rd (.tail _ (.tail _ (.head _)))).1.1 g7.out Y7.out).1 (by rw[(Al.take (HA.out.rd (.tail _ (.tail _ (.head _)))).1.1 g7.out Y7.out).2];exact Nat.le_trans g7.out (HA.out.rd (.tail _ (.tail _ (.head _)))).1.2.2) E6.out).mono ?_
  rintro e w' ⟨rfl,⟨nd1,rfl⟩⟩;refine⟨_,rfl,?_⟩;refine hK.out _ _ ⟨HA.out.k _ (.tail _ (.tail _ (.head _))),HA.out.k _ (.tail _ (.head _)),trivial⟩ (fun hHeld=>?_);clear hK K
  refine cU ?_
  refine p_ 30 91 ?_
  refine p_ 31 92 ?_
  refine p_ 32 93 ?_
  refine p_ 33 94 ?_
  refine p_ 35 96 ?_
  refine p_ 37 98 ?_
  refine tH_ 34 95 ?_
  refine tH_ 36 97 ?_
  refine p_ 38 99 ?_
  refine dg 39 (some 100) (fun K hK=>?_)
  refine dm Tryz.func48 (by kernel_rfl) rfl #[.slice G7 x8.length g7_,.slice D7 y8.length d7] (by rfl) rfl rfl cS ?_
  refine(bw.c k G7 g7_ x8 D7 d7 y8 true _ (kD_ (HA.out.rd (.tail _ (.head _))).2.1) (HA.out.rd (.tail _ (.head _))).2.2.2 (kD_ (Al.take (HA.out.rd (.tail _ (.tail _ (.head _)))).2.1 g8.out Y8.out).1) (by rw[(Al.take (HA.out.rd (.tail _ (.tail _ (.head _)))).2.1 g8.out Y8.out).2];exact Nat.le_trans g8.out (HA.out.rd (.tail _ (.tail _ (.head _)))).2.2.2) E7.out).mono ?_
  rintro e w' ⟨rfl,⟨nd2,rfl⟩⟩;refine⟨_,rfl,?_⟩;refine hK.out _ _ ⟨HA.out.k _ (.tail _ (.tail _ (.head _))),HA.out.k _ (.tail _ (.head _)),trivial⟩ (fun hHeld=>?_);clear hK K
  refine cU ?_
  refine p_ 40 101 ?_
  refine p_ 41 102 ?_
  refine dZ (db HT_.out (by kernel_rfl)) ?_
  have hx3:=g3.out;have l7:=g7.out;have l8:=g8.out;clear g3 kB k7 k7' k8 k8' q7 q8 hcut7 hcut8;obtain⟨_,_,_,_,_,_,_,_,_,_,_,_,_,_,_,_⟩:=bT (HA.out.k _ (.tail _ (.head _)));obtain⟨_,_,_,_,_,_,_,_,_,_,_,_,_,_,_,_⟩:=bT (HA.out.k _ (.tail _ (.tail _ (.head _))));obtain⟨j,hj⟩:∃ j_:Int,wrap64 ((x7.length:Int)-1)=j_:=⟨_,rfl⟩;have hjw:IntKind.i64.wrap ((x7.length:Int)-1)=j:=(bu _).trans hj
  by_cases hA:x7.length<m7.length
  all_goals try(have kA:=decide_eq_true hA;have kA':=decide_eq_true (show(x7.length:Int)<(m7.length:Int) by omega);rw[kA,Bool.true_or]at hx3;have hx8:=g0.out hA;have kC:=decide_eq_false (show ¬ (x8.length:Int)>0 by omega);have kC':decide (0<x8.length)=false:=decide_eq_false (by omega);clear hx8)
  all_goals try(have kA:=decide_eq_false hA;have kA':=decide_eq_false (show ¬ (x7.length:Int)<(m7.length:Int) by omega);rw[kA,Bool.false_or]at hx3;by_cases hB:x8.length<m8.length)
  all_goals try(have kB:=decide_eq_true hB;have kB':=decide_eq_true (show(x8.length:Int)<(m8.length:Int) by omega);rw[kB]at hx3)
  all_goals try(have kB:=decide_eq_false hB;have kB':=decide_eq_false (show ¬ (x8.length:Int)<(m8.length:Int) by omega);rw[kB]at hx3)
  all_goals(
    cases m3<;>(
      (try simp only[Bool.true_or,Bool.or_true,Bool.or_false,Bool.false_or]at hx3)
      subst hx3;go_wp2
      replace HA:=a0_ (HA.out.drewN (nd1+nd2)).drew))
  all_goals by_cases hZ:x7.length=0
  all_goals try(
    have kZ:=decide_eq_false (show ¬ (x7.length:Int)>0 by omega);have kZ':decide (0<x7.length)=false:=decide_eq_false (by omega);clear hj hjw hZ;refine fN 41 [] ht_ (fun hHeld=>?_);refine ck bA.tab18 bA.bits18 (fun HT_ HW_=>?_);generalize (w9.drewN (nd1+nd2)).drew=g1 at HA hHeld ⊢
    refine p_ 0 134 ?_
    refine p_ 1 135 ?_
    refine p_ 2 136 ?_
    refine s_ 3 137 ?_
    refine s_ 4 138 ?_
    refine s_ 5 139 ?_
    refine s_ 6 140 ?_
    refine s_ 7 141 ?_
    refine p_ 8 142 ?_
    refine p_ 9 143 ?_
    refine s_ 10 144 ?_
    refine s_ 11 145 ?_
    refine s_ 12 146 ?_
    refine s_ 13 147 ?_
    refine s_ 14 148 ?_
    refine s_ 15 149 ?_
    refine s_ 16 150 ?_
    refine s_ 17 151 ?_
    refine s_ 18 152 ?_
    refine s_ 19 153 ?_
    refine s_ 20 154 ?_
    refine s_ 21 155 ?_
    refine s_ 22 156 ?_
    refine s_ 23 157 ?_
    refine p_ 24 158 ?_
    refine p_ 25 159 ?_
    refine s_ 26 160 ?_
    refine s_ 27 161 ?_
    refine s_ 28 162 ?_
    refine s_ 29 163 ?_
    refine s_ 30 164 ?_
    refine s_ 31 165 ?_
    refine s_ 32 166 ?_
    refine s_ 33 167 ?_
    refine s_ 34 168 ?_
    refine s_ 35 169 ?_
    refine s_ 36 170 ?_
    refine s_ 37 171 ?_
    refine s_ 38 172 ?_
    refine s_ 39 173 ?_
    refine p_ 40 174 ?_
    refine dZ (db HT_.out (by kernel_rfl)) ?_)
  all_goals try(
    have hW:¬ x7.length<m7.length∧0<x7.length:=⟨hA,by omega⟩;have kZ:=decide_eq_true (show(x7.length:Int)>0 by omega);have kZ':decide (0<x7.length)=true:=decide_eq_true (by omega);clear hW hj hjw;refine fN 41 [] (hp_ (HA.out.k _ (.tail _ (.tail _ (.head _)))) (hp_ (HA.out.k _ (.tail _ (.head _))) ht_)) (fun hHeld=>?_);refine ck bA.tab18 bA.bits18 (fun HT_ HW_=>?_);generalize (w9.drewN (nd1+nd2)).drew=g1 at HA hHeld ⊢
    refine p_ 0 134 ?_
    refine p_ 1 135 ?_
    refine p_ 2 136 ?_
    refine p_ 3 137 ?_
    refine p_ 4 138 ?_
    refine tH_ 5 139 ?_
    refine p_ 6 140 ?_
    refine p_ 7 141 ?_
    refine p_ 8 142 ?_
    refine p_ 9 143 ?_
    refine s_ 10 144 ?_
    refine s_ 11 145 ?_
    refine s_ 12 146 ?_
    refine s_ 13 147 ?_
    refine s_ 14 148 ?_
    refine s_ 15 149 ?_
    refine s_ 16 150 ?_
    refine s_ 17 151 ?_
    refine s_ 18 152 ?_
    refine s_ 19 153 ?_
    refine s_ 20 154 ?_
    refine s_ 21 155 ?_
    refine s_ 22 156 ?_
    refine s_ 23 157 ?_
    refine p_ 24 158 ?_
    refine p_ 25 159 ?_
    refine s_ 26 160 ?_
    refine s_ 27 161 ?_
    refine s_ 28 162 ?_
    refine s_ 29 163 ?_
    refine s_ 30 164 ?_
    refine s_ 31 165 ?_
    refine s_ 32 166 ?_
    refine s_ 33 167 ?_
    refine s_ 34 168 ?_
    refine s_ 35 169 ?_
    refine s_ 36 170 ?_
    refine s_ 37 171 ?_
    refine s_ 38 172 ?_
    refine s_ 39 173 ?_
    refine p_ 40 174 ?_
    refine dZ (db HT_.out (by kernel_rfl)) ?_)
  all_goals try(
    have hW:x7.length<m7.length∧0<x7.length:=⟨hA,by omega⟩;have kZ:=decide_eq_true (show(x7.length:Int)>0 by omega);have kZ':decide (0<x7.length)=true:=decide_eq_true (by omega)
    have ju:j=((x7.length-1:Nat):Int):=by have:=gm.out;rw[← hj];unfold wrap64;omega
    have hq:=gn.out (x7.length-1) (by omega) hW.1;rw[← ju]at hq;have jp:=decide_eq_true (show 0≤j by omega);have jq:=decide_eq_true (show j<(m7.length:Int) by omega);have jr:=decide_eq_true (show 0≤(x7.length:Int) by omega);have p0:=eq_true (show 0≤j by omega);have q0:=eq_true (show j<(m7.length:Int) by omega);have p1:=eq_true (show 0≤(x7.length:Int) by omega);have q1:=eq_true (show(x7.length:Int)<(m7.length:Int) by omega);obtain⟨ad,ha,a0,a1,a2,a3⟩:=dN (HA.out.rd (.tail _ (.tail _ (.head _)))).1.1 j (of_eq_true p0) (of_eq_true q0);obtain⟨ad',ha',b0,b1,b2,b3⟩:=dN (HA.out.rd (.tail _ (.tail _ (.head _)))).1.1 (x7.length:Int) (of_eq_true p1) (of_eq_true q1);subst ha
    obtain rfl:ad=ad':=by injection ha'
    clear ha' ju
    (try simp only[Go.IntWalk.toNatUp]at b0 b1 b2 b3)
    generalize ae m7 (x7.length:Int)=rb at hq b0 b1 b2 b3;generalize ae m7 j=ra at hq a0 a1 a2 a3
    by_cases hS:ra.f0.toList=rb.f0.toList
    all_goals first|(have kS:=beq_eq_false_iff_ne.mpr hS)|(have kS:=beq_iff_eq.mpr hS;have kT:=beq_eq_false_iff_ne.mpr (hq hS))
    all_goals(
      clear hq hS hW;refine fN 41 [] (hp_ (HA.out.k _ (.tail _ (.tail _ (.head _)))) (hp_ (HA.out.k _ (.tail _ (.head _))) (c4_ a0 a1 a2 a3 (c4_ b0 b1 b2 b3 ht_)))) (fun hHeld=>?_);refine ck bA.tab18 bA.bits18 (fun HT_ HW_=>?_);generalize (w9.drewN (nd1+nd2)).drew=g1 at HA a0 a1 a2 a3 b0 b1 b2 b3 hHeld ⊢
      refine p_ 0 134 ?_
      refine p_ 1 135 ?_
      refine p_ 2 136 ?_
      refine p_ 3 137 ?_
      refine p_ 4 138 ?_
      refine tH_ 5 139 ?_
      refine p_ 6 140 ?_
      refine p_ 7 141 ?_
      refine p_ 8 142 ?_
      refine p_ 9 143 ?_
      refine p_ 10 144 ?_
      refine p_ 12 146 ?_
      refine p_ 13 147 ?_
      refine p_ 17 151 ?_
      refine p_ 19 153 ?_
      refine tH_ 11 145 ?_
      refine p_ 14 148 ?_
      refine p_ 15 149 ?_
      refine tH_ 16 150 ?_
      refine tH_ 18 152 ?_
      refine p_ 20 154 ?_
      refine p_ 21 155 ?_
      refine tH_ 22 156 ?_
      refine p_ 23 157 ?_
      refine p_ 24 158 ?_
      refine p_ 25 159 ?_
      first
      | (
        have kT':=kT
        refine p_ 26 160 ?_
        refine p_ 28 162 ?_
        refine p_ 29 163 ?_
        refine p_ 33 167 ?_
        refine p_ 35 169 ?_
        refine tH_ 27 161 ?_
        refine p_ 30 164 ?_
        refine p_ 31 165 ?_
        refine tH_ 32 166 ?_
        refine tH_ 34 168 ?_
        refine p_ 36 170 ?_
        refine p_ 37 171 ?_
        refine tH_ 38 172 ?_
        refine p_ 39 173 ?_
        refine p_ 40 174 ?_)
      | (
        refine s_ 26 160 ?_
        refine s_ 27 161 ?_
        refine s_ 28 162 ?_
        refine s_ 29 163 ?_
        refine s_ 30 164 ?_
        refine s_ 31 165 ?_
        refine s_ 32 166 ?_
        refine s_ 33 167 ?_
        refine s_ 34 168 ?_
        refine s_ 35 169 ?_
        refine s_ 36 170 ?_
        refine s_ 37 171 ?_
        refine s_ 38 172 ?_
        refine s_ 39 173 ?_
        refine p_ 40 174 ?_)
      refine dZ (db HT_.out (by kernel_rfl)) ?_))
  all_goals(
    obtain⟨_,_,_,_,_,_,_,_,_,_,_,_,_,_,_,_⟩:=bT (HA.out.k _ (.tail _ (.head _)))
    go_wp2_with (first
      | ((with_reducible refine gt_ 41 rfl ?_);(first|refine gs_ 178 Tryz.func41 #[.agg #[.int .i64 x1,.bool x2,.bool true,.int .i64 x4,.string x5,.int .i64 x6,.slice G6 x7.length g6,.slice G7 x8.length g7_],.int .i64 z] ?_|refine gs_ 178 Tryz.func41 #[.agg #[.int .i64 x1,.bool x2,.bool false,.int .i64 x4,.string x5,.int .i64 x6,.slice G6 x7.length g6,.slice G7 x8.length g7_],.int .i64 z] ?_);refine(rI HA.out HV.out (.tail _ (.head _)) E8.out).mono ?_;rintro e g2 ⟨J6,j6,J7,j7,rfl,hA_⟩;refine⟨_,rfl,?_⟩;replace HA:=a0_ hA_;clear hA_)
      | ((with_reducible refine ax (N:=14) rfl ?_);(try(refine bP (by rfl) ?_;dsimp only));refine cm 14 #[.int .i64 0,.bool false,.bool false,.int .i64 0,.string (⟨#[]⟩:ByteArray),.int .i64 0,.slice none 0 0,.slice none 0 0] 62 (fun gA hg g4 hbox hb=>?_);have HF:=a0_ (HA.out.far hg);replace HA:=a0_ (HA.out.box hg hbox hb (by decide));clear hb hbox hg;have f7:=HF.out _ (.tail _ (.head _));have f8:=f7.symm;obtain⟨_,_,_,_,_,_,_,_,_,_,_,_,_,_,_,_⟩:=bT (HA.out.k _ (.head _));obtain⟨_,_,_,_,_,_,_,_,_,_,_,_,_,_,_,_⟩:=bT (HA.out.k _ (.tail _ (.tail _ (.head _)))))
      | (go_at_call 50;refine(pT (HA.out.put8 HF.out (by decide)) (.head _) (.tail _ (.tail _ (.head _))) E4.out).mono ?_;rintro e g5 ⟨rfl,hA_⟩;replace HA:=a0_ hA_;clear hA_ HF))
    go_ret
    exact⟨rfl,HA.out.b⟩)
def bA.Pure: Prop:=∀ (l0:List Int),l0.length≤maxLen→l0.length*1≤140737488351232→(∀ x∈l0,(Lit.int .u8 x).wf=true)→∃ k,bA.f k l0
theorem bA.walk(P:bA.Pure)(a0:Option Addr)(len0 cap0:Nat)(z0:List Int)(w:World)(w0:(a0=none∧len0=0∧cap0=0∧z0=[])∨∃ x,a0=some x∧len0≤cap0∧cap0≤maxLen∧z0.length=cap0∧(∀ i,i<z0.length→w.cell? (x.add i)=some (.int .u8 (z0.getD i 0)))∧∀ n∈z0,(Lit.int .u8 n).wf=true)(y0:len0*1≤140737488351232)(hv_:Vars w):
    Calls Tryz.prog 9 #[.slice a0 len0 cap0] w fun e w'=>e = .returned (.bool true)∧Below w.heap.size w w':=by
  obtain⟨l0,rfl,hr0,hm0,hw0,hc0⟩:=cN.ofRowC w0;obtain⟨k,h⟩:=P l0 hm0 y0 hw0
  refine(bA.c k _ _ l0 true w (Kd.C_of_reads (d:=(0:Int)) (h1:=fun _=>rfl) hr0) hc0 h).mono ?_
  rintro e w' ⟨rfl,hd⟩;exact⟨rfl,hd⟩
end Go.Proofs.YtiegkjimpclmaaaGreatDoor.P
