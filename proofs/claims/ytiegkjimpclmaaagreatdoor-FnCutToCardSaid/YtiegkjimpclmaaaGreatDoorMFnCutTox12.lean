/- FnCutTo: part 13 of 17 of my texts for this claim, joined; the theorem stands in the last. Conditions: none beyond the statement's. -/
import Derived.Test.YtiegkjimpclmaaaGreatDoorMFnCutTox11
open Go.RowKit Go.Proofs.YtiegkjimpclmaaaGreatDoorW.PrintWords Go.Proofs.YtiegkjimpclmaaaGreatDoorW.PrintLast Go.Proofs.YtiegkjimpclmaaaGreatDoorW.PrintMore
set_option linter.unusedVariables false
set_option linter.unusedSimpArgs false
set_option maxHeartbeats 8000000
set_option maxRecDepth 100000
namespace Go.Proofs.YtiegkjimpclmaaaGreatDoor.P
attribute [local go_sem] cG cD c_ cZ ci ch cE cH
mutual
def ai.l0: Nat→List ByteArray→ByteArray→List (S45)→Int→Int→Int→Bool→Bool→Int→ByteArray→Int→List (S45)→List (S45)→Option (ByteArray×Bool)
 | 0,_,_,_,_,_,_,_,_,_,_,_,_,_=>none
 | k+1,x4,x6,j4,j6,g8,g1,g0,g2,g3,g4,g5,g6,g7=>if g8<j6 then(if 0≤g8 then(if g8<(j4.length:Int)then(if x4.length<8796093022208 then((ez.f k ((ae j4 g8).f1) ((ae j4 g8).f3)).bind fun j2=>((aW.f k ((ae j4 g8).f1) 1).bind fun g9=>((aW.f k ((ae j4 g8).f2) 3).bind fun j0=>(if g9.size+j0.size≤9223372036854775807 then((aW.f k (j2.size:Int) 1).bind fun j3=>(if(g9++j0).size+j3.size≤9223372036854775807 then(if((g9++j0)++j3).size+j2.size≤9223372036854775807 then(if x6.size+(((g9++j0)++j3)++j2).size≤9223372036854775807 then(ai.l0 k (x4 ++ [(ae j4 g8).f0]) (x6++(((g9++j0)++j3)++j2)) j4 j6 (wrap64 (g8+1)) g1 g0 g2 g3 g4 g5 g6 g7)else(none))else(none))else(none)))else(none)))))else(none))else(none))else(none))else((cV.f k x4).bind fun j5=>(if j5.2=true then(if g0=true then(ai.j1 k x6 j5.1 128 g1 g0 g2 g3 g4 g5 g6 g7)else(ai.j1 k x6 j5.1 0 g1 g0 g2 g3 g4 g5 g6 g7))else(some ((⟨#[]⟩:ByteArray),false))))
def ai.j1: Nat→ByteArray→ByteArray→Int→Int→Bool→Bool→Int→ByteArray→Int→List (S45)→List (S45)→Option (ByteArray×Bool)
 | 0,_,_,_,_,_,_,_,_,_,_,_=>none
 | k+1,x6,g8,g9,g1,g2,g0,g3,g4,g5,g6,g7=>if g0=true then(ai.j2 k x6 g8 (wrap64 (g9+1)) g1 g2 g0 g3 g4 g5 g6 g7)else(ai.j2 k x6 g8 g9 g1 g2 g0 g3 g4 g5 g6 g7)
def ai.j2: Nat→ByteArray→ByteArray→Int→Int→Bool→Bool→Int→ByteArray→Int→List (S45)→List (S45)→Option (ByteArray×Bool)
 | 0,_,_,_,_,_,_,_,_,_,_,_=>none
 | k+1,x6,g7,j7,g8,j4,j5,g9,j6,j0,j1,j3=>(aW.f k g8 2).bind fun g0=>((aW.f k j7 1).bind fun g1=>(if g0.size+g1.size≤9223372036854775807 then((aW.f k g9 1).bind fun g2=>(if(g0++g1).size+g2.size≤9223372036854775807 then((aW.f k (j1.length:Int) 1).bind fun g3=>(if((g0++g1)++g2).size+g3.size≤9223372036854775807 then((aW.f k (j3.length:Int) 1).bind fun g4=>(if(((g0++g1)++g2)++g3).size+g4.size≤9223372036854775807 then((aW.f k (g7.size:Int) 2).bind fun g5=>(if((((g0++g1)++g2)++g3)++g4).size+g5.size≤9223372036854775807 then(if(((((g0++g1)++g2)++g3)++g4)++g5).size+g7.size≤9223372036854775807 then((aW.f k j0 1).bind fun g6=>(if((((((g0++g1)++g2)++g3)++g4)++g5)++g7).size+g6.size≤9223372036854775807 then(if(((((((g0++g1)++g2)++g3)++g4)++g5)++g7)++g6).size+x6.size≤9223372036854775807 then(some ((((((((g0++g1)++g2)++g3)++g4)++g5)++g7)++g6)++x6,true))else(none))else(none)))else(none))else(none)))else(none)))else(none)))else(none)))else(none)))
end
def ai.f(k:Nat)(a0_0:Int)(a0_1:Bool)(a0_2:Bool)(a0_3:Int)(a0_4:ByteArray)(a0_5:Int)(l0_6:List (S45))(l0_7:List (S45)): Option (ByteArray×Bool):=(dJ.f l0_6 l0_7).bind fun g0=>(ai.l0 k (([a0_4]:List ByteArray)) (⟨#[]⟩:ByteArray) g0 (g0.length:Int) 0 a0_0 a0_1 a0_2 a0_3 a0_4 a0_5 l0_6 l0_7)
def ai.T9: Bool×List (List Nat×List Nat):=(true,[([],[]),([],[]),([1],[1]),([2],[2]),([],[]),([4],[4]),([5,3],[5]),([3,6],[3,6]),([],[]),([8],[8]),([9,6],[9]),([7,10],[7,10]),([],[]),([11,12],[11,12]),([0,13],[0,13]),([14,10,0,1,2,3,4,5,6,7,8,9,10,11,12,13,14],[0,14])])
def ai.B9: List Nat:=[0,0,2,6,0,16,62,126,0,256,894,2046,0,8190,16383,32767]
theorem ai.tab9: eA .any (fc Tryz.f106 9)=ai.T9:=by kernel_rfl
theorem ai.bits9: du ai.T9.2 ai.B9=true:=by kernel_rfl
def ai.T19: Bool×List (List Nat×List Nat):=(true,[([],[]),([0],[0]),([1],[1]),([],[]),([3,2],[3]),([2,4],[2,4]),([],[]),([6],[6]),([7,4],[7]),([5,8],[5,8]),([],[]),([10],[10]),([11],[11]),([12,8],[12]),([9,13],[9,13]),([],[]),([15],[15]),([16],[16]),([17,13],[17]),([14,18],[14,18]),([],[]),([20],[20]),([21,18],[21]),([19,22],[19,22]),([],[]),([23,24],[23,24]),([],[]),([26],[26]),([27,22],[27]),([25,28],[25,28]),([],[]),([29,30],[29,30]),([31,28,0,1,2,3,4,5,6,7,8,9,10,11,12,13,14,15,16,17,18,19,20,21,22,23,24,25,26,27,28,29,30,31],[31]),([32,0,1,2,3,4,5,6,7,8,9,10,11,12,13,14,15,16,17,18,19,20,21,22,23,24,25,26,27,28,29,30,31,32],[])])
def ai.B19: List Nat:=[0,1,3,0,15,31,0,64,223,511,0,1024,3072,7647,16383,0,32768,98304,245215,524287,0,1048576,3653087,8388607,0,33554431,0,67108864,209173983,536870911,0,2147483647,4294967295,8589934591]
theorem ai.tab19: eA .any (fc Tryz.f106 19)=ai.T19:=by kernel_rfl
theorem ai.bits19: du ai.T19.2 ai.B19=true:=by kernel_rfl
theorem ai.c(k:Nat)(a0_0:Int)(a0_1:Bool)(a0_2:Bool)(a0_3:Int)(a0_4:ByteArray)(a0_5:Int)(A0_6:Option Addr)(c0_6:Nat)(l0_6:List (S45))(A0_7:Option Addr)(c0_7:Nat)(l0_7:List (S45))(r1:ByteArray)(r2:Bool)(w:World)(hr0_6:Kd.C k45 w A0_6 l0_6.length l0_6)(hc0_6:l0_6.length≤c0_6)(hr0_7:Kd.C k45 w A0_7 l0_7.length l0_7)(hc0_7:l0_7.length≤c0_7)(h:ai.f k a0_0 a0_1 a0_2 a0_3 a0_4 a0_5 l0_6 l0_7=some (r1,r2))(hv_:Vars w:=by exact vv_):
 Calls Tryz.prog 106 #[.agg #[.int .i64 a0_0,.bool a0_1,.bool a0_2,.int .i64 a0_3,.string a0_4,.int .i64 a0_5,.slice A0_6 l0_6.length c0_6,.slice A0_7 l0_7.length c0_7]] w fun e w'=>e = .returned (.tuple #[.string r1,.bool r2])∧Below w.heap.size w w':=by
 have HV_:=a0_ hv_;clear hv_;have hu62:=Tryz.underlying62;have hu45:=Tryz.underlying45;have HR0_6:=a0_ hr0_6;have HC0_6:=a0_ hc0_6;clear hr0_6 hc0_6;have HR0_7:=a0_ hr0_7;have HC0_7:=a0_ hc0_7;clear hr0_7 hc0_7;have HB:=a0_ (Below.refl w.heap.size w);have H:=h;clear h;unfold ai.f at H;obtain⟨V8,y6⟩:∃ y_:List ByteArray,y_=(([a0_4]:List ByteArray)):=⟨_,rfl⟩;rw[← y6]at H;have b6:=a0_ y6;clear y6;obtain⟨g2,A2,H⟩:=ob_ H;have H':=a0_ H;clear H;go_enter Tryz.func106,Tryz.ntmps106;go_wp2_with (first|((with_reducible refine ax (N:=1) rfl ?_);refine cm 1 #[.int .i64 a0_0,.bool a0_1,.bool a0_2,.int .i64 a0_3,.string a0_4,.int .i64 a0_5,.slice A0_6 l0_6.length c0_6,.slice A0_7 l0_7.length c0_7] 62 (fun g5 hg w3 hbox hb=>?_);have g0:=a0_ (hbox);have V4:=a0_ (gw_ hg:w.heap.size≤g5);replace HB:=a0_ (aa ay hb);have N0:=V4;clear hb hbox hg;obtain⟨z4_0,z4_1,z4_2,z4_3,z4_4,z4_5,z4_6,z4_7,q4_0,q4_1,q4_2,q4_3,q4_4,q4_5,q4_6,q4_7⟩:=bT g0.out)|((with_reducible refine ax (N:=15) rfl ?_);refine ls_ 15 9 ([a0_4]:List ByteArray) ?_;intro X8 w5 ho6 hb hg_ hnew_;clear hg_ hnew_;(first|rw[← b6.out]at ho6|(simp only[Int.reduceToNat]at ho6;rw[← b6.out]at ho6));have y7:=a0_ (Kd.R_lower ho6 (aj aD));replace g0:=a0_ (bq g0 hb);replace HB:=a0_ (aa aD hb);clear hb ho6;obtain⟨z7_0,z7_1,z7_2,z7_3,z7_4,z7_5,z7_6,z7_7,q7_0,q7_1,q7_2,q7_3,q7_4,q7_5,q7_6,q7_7⟩:=bT g0.out)|(go_at_call 162;(refine(dJ.c A0_6 c0_6 l0_6 A0_7 c0_7 l0_7 g2 _ ?side1 ?side2 ?side3 ?side4 A2.out).mono ?_);(case side1=>exact kC_ HR0_6.out HB.out);(case side2=>exact HC0_6.out);(case side3=>exact kC_ HR0_7.out HB.out);(case side4=>exact HC0_7.out);rintro e w8 ⟨X9,rfl,ho0,hb⟩;replace y7:=a0_ (Kd.R_below (kR_ y7.out) hb);have b7:=a0_ (Kd.R_lower ho0 (aj aD));replace g0:=a0_ (bq g0 hb);replace HB:=a0_ (aa aD hb);clear hb;(try clear ho0);obtain⟨Ao9,co9,eo9⟩:=Kd.R_slice b7.out;subst eo9));go_loopg [4,6,24] k (fun kq v4 v6 N1 w'=> ∃ (x4_1:List ByteArray) (x6_1:ByteArray) (g1:Int),v6 = .string x6_1∧N1 = .int .i64 g1∧ab (ai.l0 kq x4_1 x6_1 g2 (g2.length:Int) g1 a0_0 a0_1 a0_2 a0_3 a0_4 a0_5 l0_6 l0_7=some (r1,r2))∧ab (kq≤k)∧ab (Kd.R Kd.string 9 w' w.heap.size (fun _=>True) v4 x4_1)∧ab (Kd.R k45 45 w' w.heap.size (fun _=>True) (.slice Ao9 g2.length co9) g2)∧ab (w'.heap[g5]? = some (.cells #[.int .i64 a0_0,.bool a0_1,.bool a0_2,.int .i64 a0_3,.string a0_4,.int .i64 a0_5,(.slice A0_6 l0_6.length c0_6),(.slice A0_7 l0_7.length c0_7)] 62 (0,0)))∧ab (Below w.heap.size w w'))
 case atStart=>exact⟨(V8),((⟨#[]⟩:ByteArray)),(0),rs_,rs_,H',⟨Nat.le_refl _⟩,⟨kR_ y7.out⟩,⟨kR_ b7.out⟩,⟨bz_⟩,⟨aD⟩⟩
 case round=>
  clear H'
  try clear z4_0 z4_1 z4_2 z4_3 z4_4 z4_5 z4_6 z4_7
  try clear z7_0 z7_1 z7_2 z7_3 z7_4 z7_5 z7_6 z7_7
  try clear q4_0 q4_1 q4_2 q4_3 q4_4 q4_5 q4_6 q4_7
  try clear q7_0 q7_1 q7_2 q7_3 q7_4 q7_5 q7_6 q7_7
  obtain⟨x4_1,x6_1,g1,rfl,rfl,HA,HK1,HO_4,g4,g0,HB⟩:=hrel
  cases gk with
  | zero=>exact absurd HA.out (by simp[ai.l0])
  | succ k1=>
   have H:=HA.out;clear HA;simp only[ai.l0]at H
   by_cases y5:g1<(g2.length:Int)
   case pos=>
    rw[if_pos y5]at H;have b5:=decide_eq_true y5;clear y5
    by_cases b8:0≤g1
    case neg=>
     rw[if_neg b8]at H;exact absurd H (by simp)
    rw[if_pos b8]at H;have V9:=decide_eq_true b8;clear b8
    by_cases b9:g1<(g2.length:Int)
    case neg=>
     rw[if_neg b9]at H;exact absurd H (by simp)
    rw[if_pos b9]at H;have G0:=decide_eq_true b9;clear b9
    by_cases d0:x4_1.length<8796093022208
    case neg=>
     rw[if_neg d0]at H;exact absurd H (by simp)
    rw[if_pos d0]at H;have G1:=a0_ d0;clear d0;obtain⟨G2,y8⟩:∃ y_:List ByteArray,y_=(x4_1 ++ [(ae g2 g1).f0]):=⟨_,rfl⟩;rw[← y8]at H;have V5:=a0_ y8;clear y8;obtain⟨j9,N2,H⟩:=ob_ H;obtain⟨j5,N3,H⟩:=ob_ H;obtain⟨j6,N4,H⟩:=ob_ H
    by_cases b0:j5.size+j6.size≤9223372036854775807
    case neg=>
     rw[if_neg b0]at H;exact absurd H (by simp)
    rw[if_pos b0]at H;have G3:=eq_true b0;have G4:=decide_eq_true b0
    try have G5:(9223372036854775807<j5.size+j6.size)=False:=eq_false (Nat.not_lt.2 b0)
    obtain⟨y0,N5,H⟩:=ob_ H
    by_cases b1:(j5++j6).size+y0.size≤9223372036854775807
    case neg=>
     rw[if_neg b1]at H;exact absurd H (by simp)
    rw[if_pos b1]at H;have G6:=eq_true b1;have G7:=decide_eq_true b1
    try have z8:(9223372036854775807<(j5++j6).size+y0.size)=False:=eq_false (Nat.not_lt.2 b1)
    (try(have G8:=z8;simp only[ByteArray.size_append,Nat.reduceAdd]at G8))
    by_cases b2:((j5++j6)++y0).size+j9.size≤9223372036854775807
    case neg=>
     rw[if_neg b2]at H;exact absurd H (by simp)
    rw[if_pos b2]at H;have G9:=eq_true b2;have J0:=decide_eq_true b2
    try have z9:(9223372036854775807<((j5++j6)++y0).size+j9.size)=False:=eq_false (Nat.not_lt.2 b2)
    (try(have J1:=z9;simp only[ByteArray.size_append,Nat.reduceAdd]at J1))
    by_cases b3:x6_1.size+(((j5++j6)++y0)++j9).size≤9223372036854775807
    case neg=>
     rw[if_neg b3]at H;exact absurd H (by simp)
    rw[if_pos b3]at H;have J2:=eq_true b3;have J3:=decide_eq_true b3
    try have f4:(9223372036854775807<x6_1.size+(((j5++j6)++y0)++j9).size)=False:=eq_false (Nat.not_lt.2 b3)
    (try(have J4:=f4;simp only[ByteArray.size_append,Nat.reduceAdd]at J4))
    have H':=a0_ H;clear H;have f5:=t0_ (g1);have f6:=tl_ (g1) (g2.length);obtain⟨N6,J5,z2,z3,z4,z5⟩:=dN (Kd.R_reads' g4.out).2.2 g1 (of_eq_true f5) (of_eq_true f6);cases J5
    try go_wp2_with (first|((with_reducible refine ax (N:=8) rfl ?_);refine cm 8 #[.string (⟨#[]⟩:ByteArray),.int .i64 0,.int .i64 0,.string (⟨#[]⟩:ByteArray)] 45 (fun j7 hg W1 hbox hb=>?_);replace HO_4:=a0_ (Kd.R_below (kR_ HO_4.out) hb);replace g4:=a0_ (Kd.R_below (Kd.R_elderB (kR_ g4.out) j7 (Nat.le_of_eq hg.symm)) hb);have g3:=a0_ (hbox);have V6:=a0_ (gw_ hg (aj aD):w.heap.size≤j7);replace HB:=a0_ (aa aD hb);have y3:=a0_ ((by rw[hg];exact Nat.ne_of_lt (cB (g:=g5) (o:=.cells #[.int .i64 a0_0,.bool a0_1,.bool a0_2,.int .i64 a0_3,.string a0_4,.int .i64 a0_5,.slice A0_6 l0_6.length c0_6,.slice A0_7 l0_7.length c0_7] 62 (0,0)) (kB_ g0.out)):g5≠j7));have y9:=a0_ ((by rw[hg];exact Nat.ne_of_gt (cB (g:=g5) (o:=.cells #[.int .i64 a0_0,.bool a0_1,.bool a0_2,.int .i64 a0_3,.string a0_4,.int .i64 a0_5,.slice A0_6 l0_6.length c0_6,.slice A0_7 l0_7.length c0_7] 62 (0,0)) (kB_ g0.out)):j7≠g5));replace g0:=a0_ (bq g0 hb);have N7:=V6;clear hb hbox hg;have E0:=y9.out;have E1:=y3.out;obtain⟨J6,J7,J8,J9,Q0,Q1,Q2,Q3⟩:=cY g3.out)|((with_reducible refine bz (b:=.append) (xs:=#[.tmp 28,.tmp 31]) rfl ?_);at_builtin;refine Kd.R_append Kd.string (w0:=w) w.heap.size rfl (.tmp 28) (.tmp 31) 78 9 (.string ⟨#[]⟩) 16 rfl Tryz.underlying78 jd rfl (by decide) (by omega) u4 x4_1 ((ae g2 g1).f0) [.string ((ae g2 g1).f0)] (fun _=>True) (fun _=>False) rfl (by first|(go_simp;done)|(go_simp;rfl)) ?aP (fun _ hk=>hk.elim) ?aF ?aO ?aB ?aS ?aL ?_;(case aP=>exact rfl);(case aB=>exact aD);(case aF=>exact(fun _ _=>trivial));(case aO=>exact(kR_ (Kd.R_mono (fX j7 (Kd.R_types HO_4.out g3.out (by decide)) (fun _ hk=>hk.2) (.string ((ae g2 g1).f0)) (.int .i64 ((ae g2 g1).f1)) (.int .i64 ((ae g2 g1).f2)) (.string ((ae g2 g1).f3))) (fun _ hk=>trivial))));(case aS=>exact(aj aD));(case aL=>have:=G1.out;omega);intro E2 W2 ho hb hg hat;rw[← V5.out]at ho;replace g4:=a0_ (Kd.R_over' (kR_ (Kd.R_mono (fX j7 (Kd.R_mono g4.out (fun k_ hk=>(⟨hk,hk.2⟩:_∧k_≠j7))) (fun _ hk=>hk.2) (.string ((ae g2 g1).f0)) (.int .i64 ((ae g2 g1).f1)) (.int .i64 ((ae g2 g1).f2)) (.string ((ae g2 g1).f3))) (fun _ h_=>h_.1))) (Kd.R_typed (kR_ (lF HO_4.out g3.out))) (by decide) hg);replace g0:=a0_ (cp (g:=g5) (o:=.cells #[.int .i64 a0_0,.bool a0_1,.bool a0_2,.int .i64 a0_3,.string a0_4,.int .i64 a0_5,.slice A0_6 l0_6.length c0_6,.slice A0_7 l0_7.length c0_7] 62 (0,0)) (ir y3.out g0.out) hg (Kd.R_ne HO_4.out g0.out (by decide)));replace g3:=a0_ (cp (g:=j7) (o:=.cells #[.string ((ae g2 g1).f0),.int .i64 ((ae g2 g1).f1),.int .i64 ((ae g2 g1).f2),.string ((ae g2 g1).f3)] 45 (0,0)) (fl g3.out) hg (Kd.R_ne HO_4.out g3.out (by decide)));replace HB:=a0_ (hb);have g9:=a0_ (ho);clear HO_4;clear ho hb hg hat;obtain⟨Q4,Q5,Q6,Q7,Q8,Q9,D0,D1⟩:=cY g3.out)|((with_reducible refine gt_ 141 rfl ?_);refine gs_ 37 Tryz.func141 #[.int .i64 ((ae g2 g1).f1),.string ((ae g2 g1).f3)] ?_;(with_reducible refine(ez.c k1 ((ae g2 g1).f1) ((ae g2 g1).f3) j9 _ N2.out).mono ?_);rintro e N8 ⟨rfl,hb⟩;refine⟨_,rfl,?_⟩;replace g4:=a0_ (Kd.R_below (kR_ g4.out) hb);replace g9:=a0_ (Kd.R_below (kR_ g9.out) hb);replace g0:=a0_ (bq g0 hb);replace g3:=a0_ (bq g3 hb);replace HB:=a0_ (aa aD hb);clear hb))
    replace g4:=a0_ (Kd.R_drew g4.out);replace g9:=a0_ (Kd.R_drew g9.out);replace g0:=a0_ (az g0.out);replace g3:=a0_ (az g3.out);replace HB:=a0_ (bp HB.out)
    refine fN 16 [] (eb_ g3.out) (fun hHeld=>?_);refine ck ai.tab9 ai.bits9 (fun HT_ HW_=>?_)
    generalize N8.drew=W3 at g4 g9 g0 g3 HB hHeld ⊢
    refine p_ 0 38 ?_
    refine p_ 1 39 ?_
    refine p_ 4 42 ?_
    refine p_ 8 46 ?_
    refine p_ 9 47 ?_
    refine p_ 12 50 ?_
    refine t_ 2 40 ?_
    refine t_ 5 43 ?_
    refine dg 3 (some 41) (fun K hK=>?_)
    refine dm Tryz.func89 (by kernel_rfl) rfl #[.int .i64 ((ae g2 g1).f1),.int .i64 1] (by rfl) rfl rfl cS ?_
    with_reducible refine(aW.c k1 ((ae g2 g1).f1) 1 j5 _ N3.out).mono ?_
    rintro e W4 ⟨rfl,hb⟩;refine⟨_,rfl,?_⟩;replace g4:=a0_ (Kd.R_below (kR_ g4.out) hb);replace g9:=a0_ (Kd.R_below (kR_ g9.out) hb);replace g0:=a0_ (bq g0 hb);replace g3:=a0_ (bq g3 hb);replace HB:=a0_ (aa aD hb)
    (try clear hb)
    (try clear hb2)
    (try clear hk)
    (try clear hi)
    refine hK.out _ _ (eb_ g3.out).out (fun hHeld=>?_);clear hK K
    refine cU ?_
    refine dg 6 (some 44) (fun K hK=>?_)
    refine dm Tryz.func89 (by kernel_rfl) rfl #[.int .i64 ((ae g2 g1).f2),.int .i64 3] (by rfl) rfl rfl cS ?_
    with_reducible refine(aW.c k1 ((ae g2 g1).f2) 3 j6 _ N4.out).mono ?_
    rintro e W5 ⟨rfl,hb⟩;refine⟨_,rfl,?_⟩;replace g4:=a0_ (Kd.R_below (kR_ g4.out) hb);replace g9:=a0_ (Kd.R_below (kR_ g9.out) hb);replace g0:=a0_ (bq g0 hb);replace g3:=a0_ (bq g3 hb);replace HB:=a0_ (aa aD hb)
    (try clear hb)
    (try clear hb2)
    (try clear hk)
    (try clear hi)
    refine hK.out _ _ (eb_ g3.out).out (fun hHeld=>?_);clear hK K
    refine cU ?_
    refine p_ 7 45 ?_
    refine dg 10 (some 48) (fun K hK=>?_)
    refine dm Tryz.func89 (by kernel_rfl) rfl #[.int .i64 (j9.size:Int),.int .i64 1] (by rfl) rfl rfl cS ?_
    with_reducible refine(aW.c k1 (j9.size:Int) 1 y0 _ N5.out).mono ?_
    rintro e W6 ⟨rfl,hb⟩;refine⟨_,rfl,?_⟩;replace g4:=a0_ (Kd.R_below (kR_ g4.out) hb);replace g9:=a0_ (Kd.R_below (kR_ g9.out) hb);replace g0:=a0_ (bq g0 hb);replace g3:=a0_ (bq g3 hb);replace HB:=a0_ (aa aD hb)
    (try clear hb)
    (try clear hb2)
    (try clear hk)
    (try clear hi)
    refine hK.out _ _ (eb_ g3.out).out (fun hHeld=>?_);clear hK K
    refine cU ?_
    refine p_ 11 49 ?_
    refine p_ 13 51 ?_
    refine p_ 14 52 ?_
    refine p_ 15 6 ?_
    refine dZ (db HT_.out (by kernel_rfl)) ?_
    try go_wp2
    go_roundg k1
    case measure=>have:=HK1.out;omega
    case rel=>exact⟨(G2),(x6_1++(((j5++j6)++y0)++j9)),(wrap64 (g1+1)),rs_,rs_,H',jl_ HK1,⟨kR_ g9.out⟩,⟨kR_ (Kd.R_mono g4.out (fun _ hk=>trivial))⟩,⟨bz_⟩,⟨aD⟩⟩
   rw[if_neg y5]at H;have b5:=decide_eq_false y5;clear y5;obtain⟨⟨j3,D2⟩,F3,H⟩:=ob_ H
   by_cases b4:D2=true
   case neg=>
    replace b4:=Bool.eq_false_iff.mpr b4;subst b4;rw[if_neg ff_]at H;simp only[Option.some.injEq,Prod.mk.injEq]at H;obtain⟨rfl,rfl⟩:=H;obtain⟨F4,F5,F6⟩:=Kd.R_slice HO_4.out;subst F6;go_wp2_with (first|((with_reducible refine gt_ 163 rfl ?_);refine gs_ 56 Tryz.func163 #[.slice F4 x4_1.length F5] ?_;(with_reducible refine(cV.c k1 _ _ x4_1 j3 false _ ?side1 ?side2 F3.out).mono ?_);(case side1=>exact kD_ (Kd.R_reads' HO_4.out).2.2);(case side2=>exact(Kd.R_reads' HO_4.out).2.1);rintro e W7 ⟨rfl,hb⟩;refine⟨_,rfl,?_⟩;replace HO_4:=a0_ (Kd.R_below (kR_ HO_4.out) hb);replace g4:=a0_ (Kd.R_below (kR_ g4.out) hb);replace g0:=a0_ (bq g0 hb);replace HB:=a0_ (aa aD hb);clear hb));go_ret2;exact⟨rr_,aD⟩
   subst b4;rw[if_pos rfl]at H;have z6:=a0_ H;clear H;obtain⟨F7,F8,F9⟩:=Kd.R_slice HO_4.out;subst F9;go_upto_if 62 with(first|((with_reducible refine gt_ 163 rfl ?_);refine gs_ 56 Tryz.func163 #[.slice F7 x4_1.length F8] ?_;(with_reducible refine(cV.c k1 _ _ x4_1 j3 true _ ?side1 ?side2 F3.out).mono ?_);(case side1=>exact kD_ (Kd.R_reads' HO_4.out).2.2);(case side2=>exact(Kd.R_reads' HO_4.out).2.1);rintro e W8 ⟨rfl,hb⟩;refine⟨_,rfl,?_⟩;replace HO_4:=a0_ (Kd.R_below (kR_ HO_4.out) hb);replace g4:=a0_ (Kd.R_below (kR_ g4.out) hb);replace g0:=a0_ (bq g0 hb);replace HB:=a0_ (aa aD hb);clear hb;obtain⟨f7,f8,f9,T0,T1,T2,T3,T4,T5,T6,T7,T8,T9,V0,V1,V2⟩:=bT g0.out))
   (try simp only[Act.put,List.setIfInBounds_toArray,List.set_cons_zero,List.set_cons_succ])
   go_cut [12] (fun V7 wc=> ∃ (kq:Nat) (y1:Int),V7 = .int .i64 y1∧ab (ai.j1 kq x6_1 j3 y1 a0_0 a0_1 a0_2 a0_3 a0_4 a0_5 l0_6 l0_7=some (r1,r2))∧ab (kq≤k1)∧ab (wc.heap[g5]? = some (.cells #[.int .i64 a0_0,.bool a0_1,.bool a0_2,.int .i64 a0_3,.string a0_4,.int .i64 a0_5,(.slice A0_6 l0_6.length c0_6),(.slice A0_7 l0_7.length c0_7)] 62 (0,0)))∧ab (Below w.heap.size w wc))
   case first=>
    have H:=z6.out;clear z6
    by_cases d3:a0_1=true
    case pos=>
     subst d3;rw[if_pos rfl]at H;have H':=a0_ H;clear H;go_wp2;go_meet
     case rel=>exact⟨_,(128),rs_,H',jl_ HK1,⟨bz_⟩,⟨aD⟩⟩
    replace d3:=Bool.eq_false_iff.mpr d3;subst d3;rw[if_neg ff_]at H;have H':=a0_ H;clear H;go_wp2;go_meet
    case rel=>exact⟨_,(0),rs_,H',jl_ HK1,⟨bz_⟩,⟨aD⟩⟩
   case rest=>
    clear z6
    try clear c1
    try clear p2
    try clear y5
    try clear b5
    try clear b4
    try clear f7 f8 f9 T0 T1 T2 T3 T4
    try clear z4_0 z4_1 z4_2 z4_3 z4_4 z4_5 z4_6 z4_7
    try clear z7_0 z7_1 z7_2 z7_3 z7_4 z7_5 z7_6 z7_7
    try clear T5 T6 T7 T8 T9 V0 V1 V2
    try clear q4_0 q4_1 q4_2 q4_3 q4_4 q4_5 q4_6 q4_7
    try clear q7_0 q7_1 q7_2 q7_3 q7_4 q7_5 q7_6 q7_7
    try clear p2
    obtain⟨kq,y1,rfl,HA,HJ33,g0,HB⟩:=hcut
    cases kq with
    | zero=>exact absurd HA.out (by simp[ai.j1])
    | succ kj33=>
     have H:=HA.out;clear HA;simp only[ai.j1]at H;have z7:=a0_ H;clear H;obtain⟨D3,D4,D5,D6,D7,D8,D9,Y0,Y1,Y2,Y3,Y4,Y5,Y6,Y7,Y8⟩:=bT g0.out;go_upto_if 66 with(fail);go_cut [12] (fun V7 wc=> ∃ (kq:Nat) (y2:Int),V7 = .int .i64 y2∧ab (ai.j2 kq x6_1 j3 y2 a0_0 a0_1 a0_2 a0_3 a0_4 a0_5 l0_6 l0_7=some (r1,r2))∧ab (kq≤kj33)∧ab (wc.heap[g5]? = some (.cells #[.int .i64 a0_0,.bool a0_1,.bool a0_2,.int .i64 a0_3,.string a0_4,.int .i64 a0_5,(.slice A0_6 l0_6.length c0_6),(.slice A0_7 l0_7.length c0_7)] 62 (0,0)))∧ab (Below w.heap.size w wc))
     case first=>
      have H:=z7.out;clear z7
      by_cases V3:a0_2=true
      case pos=>
       subst V3;rw[if_pos rfl]at H;have H':=a0_ H;clear H;go_wp2;go_meet
       case rel=>exact⟨_,(wrap64 (y1+1)),rs_,H',⟨by have:=HK1.out;have:=HJ33.out;first|omega|exact Nat.le_refl _⟩,⟨bz_⟩,⟨aD⟩⟩
      replace V3:=Bool.eq_false_iff.mpr V3;subst V3;rw[if_neg ff_]at H;have H':=a0_ H;clear H;go_wp2;go_meet
      case rel=>exact⟨_,(y1),rs_,H',⟨by have:=HK1.out;have:=HJ33.out;first|omega|exact Nat.le_refl _⟩,⟨bz_⟩,⟨aD⟩⟩
     case rest=>
      clear z7
      try clear c1
      try clear p1
      try clear q1
      try clear hx1
      try clear c2
      try clear p2
      try clear c3
      try clear p6
      try clear c8
      try clear y5
      try clear b5
      try clear N9
      try clear X0
      try clear W0
      try clear b8
      try clear V9
      try clear b9
      try clear G0
      try clear d0
      try clear W9
      try clear C0
      try clear b0
      try clear G3
      try clear G4
      try clear G5
      try clear b1
      try clear G6
      try clear G7
      try clear z8
      try clear b2
      try clear G9
      try clear J0
      try clear z9
      try clear b3
      try clear J2
      try clear J3
      try clear f4
      try clear C1
      try clear b4
      try clear d3
      try clear J6 J7 J8 J9
      try clear Q4 Q5 Q6 Q7
      try clear f7 f8 f9 T0 T1 T2 T3 T4
      try clear D3 D4 D5 D6 D7 D8 D9 Y0
      try clear z4_0 z4_1 z4_2 z4_3 z4_4 z4_5 z4_6 z4_7
      try clear z7_0 z7_1 z7_2 z7_3 z7_4 z7_5 z7_6 z7_7
      try clear Q0 Q1 Q2 Q3
      try clear Q8 Q9 D0 D1
      try clear T5 T6 T7 T8 T9 V0 V1 V2
      try clear Y1 Y2 Y3 Y4 Y5 Y6 Y7 Y8
      try clear q4_0 q4_1 q4_2 q4_3 q4_4 q4_5 q4_6 q4_7
      try clear q7_0 q7_1 q7_2 q7_3 q7_4 q7_5 q7_6 q7_7
      try clear z2
      try clear z3
      try clear z4
      try clear z5
      try clear p1
      try clear N9
      try clear f5
      try clear p2
      try clear p6
      try clear q1
      try clear X0
      try clear f6
      obtain⟨kq,y2,rfl,HA,HJ38,g0,HB⟩:=hcut
      cases kq with
      | zero=>exact absurd HA.out (by simp[ai.j2])
      | succ kj38=>
       have H:=HA.out;clear HA;simp only[ai.j2]at H;obtain⟨g6,X1,H⟩:=ob_ H;obtain⟨g7,X2,H⟩:=ob_ H
       by_cases d4:g6.size+g7.size≤9223372036854775807
       case neg=>
        rw[if_neg d4]at H;exact absurd H (by simp)
       rw[if_pos d4]at H;have E3:=eq_true d4;have E4:=decide_eq_true d4
       try have E5:(9223372036854775807<g6.size+g7.size)=False:=eq_false (Nat.not_lt.2 d4)
       obtain⟨g8,X3,H⟩:=ob_ H
       by_cases d5:(g6++g7).size+g8.size≤9223372036854775807
       case neg=>
        rw[if_neg d5]at H;exact absurd H (by simp)
       rw[if_pos d5]at H;have E6:=eq_true d5;have E7:=decide_eq_true d5
       try have Y9:(9223372036854775807<(g6++g7).size+g8.size)=False:=eq_false (Nat.not_lt.2 d5)
       (try(have Z0:=Y9;simp only[ByteArray.size_append,Nat.reduceAdd]at Z0))
       obtain⟨j0,X4,H⟩:=ob_ H
       by_cases d6:((g6++g7)++g8).size+j0.size≤9223372036854775807
       case neg=>
        rw[if_neg d6]at H;exact absurd H (by simp)
       rw[if_pos d6]at H;have E8:=eq_true d6;have E9:=decide_eq_true d6
       try have Z1:(9223372036854775807<((g6++g7)++g8).size+j0.size)=False:=eq_false (Nat.not_lt.2 d6)
       (try(have Z2:=Z1;simp only[ByteArray.size_append,Nat.reduceAdd]at Z2))
       obtain⟨j4,X5,H⟩:=ob_ H
       by_cases d7:(((g6++g7)++g8)++j0).size+j4.size≤9223372036854775807
       case neg=>
        rw[if_neg d7]at H;exact absurd H (by simp)
       rw[if_pos d7]at H;have O0:=eq_true d7;have O1:=decide_eq_true d7
       try have Z3:(9223372036854775807<(((g6++g7)++g8)++j0).size+j4.size)=False:=eq_false (Nat.not_lt.2 d7)
       (try(have Z4:=Z3;simp only[ByteArray.size_append,Nat.reduceAdd]at Z4))
       obtain⟨j8,X6,H⟩:=ob_ H
       by_cases d8:((((g6++g7)++g8)++j0)++j4).size+j8.size≤9223372036854775807
       case neg=>
        rw[if_neg d8]at H;exact absurd H (by simp)
       rw[if_pos d8]at H;have O2:=eq_true d8;have O3:=decide_eq_true d8
       try have Z5:(9223372036854775807<((((g6++g7)++g8)++j0)++j4).size+j8.size)=False:=eq_false (Nat.not_lt.2 d8)
       (try(have Z6:=Z5;simp only[ByteArray.size_append,Nat.reduceAdd]at Z6))
       by_cases d9:(((((g6++g7)++g8)++j0)++j4)++j8).size+j3.size≤9223372036854775807
       case neg=>
        rw[if_neg d9]at H;exact absurd H (by simp)
       rw[if_pos d9]at H;have O4:=eq_true d9;have O5:=decide_eq_true d9
       try have Z7:(9223372036854775807<(((((g6++g7)++g8)++j0)++j4)++j8).size+j3.size)=False:=eq_false (Nat.not_lt.2 d9)
       (try(have Z8:=Z7;simp only[ByteArray.size_append,Nat.reduceAdd]at Z8))
       obtain⟨y4,X7,H⟩:=ob_ H
       by_cases z0:((((((g6++g7)++g8)++j0)++j4)++j8)++j3).size+y4.size≤9223372036854775807
       case neg=>
        rw[if_neg z0]at H;exact absurd H (by simp)
       rw[if_pos z0]at H;have O6:=eq_true z0;have O7:=decide_eq_true z0
       try have Z9:(9223372036854775807<((((((g6++g7)++g8)++j0)++j4)++j8)++j3).size+y4.size)=False:=eq_false (Nat.not_lt.2 z0)
       (try(have F0:=Z9;simp only[ByteArray.size_append,Nat.reduceAdd]at F0))
       by_cases z1:(((((((g6++g7)++g8)++j0)++j4)++j8)++j3)++y4).size+x6_1.size≤9223372036854775807
       case neg=>
        rw[if_neg z1]at H;exact absurd H (by simp)
       rw[if_pos z1]at H;have O8:=eq_true z1;have O9:=decide_eq_true z1
       try have F1:(9223372036854775807<(((((((g6++g7)++g8)++j0)++j4)++j8)++j3)++y4).size+x6_1.size)=False:=eq_false (Nat.not_lt.2 z1)
       (try(have F2:=F1;simp only[ByteArray.size_append,Nat.reduceAdd]at F2))
       simp only[Option.some.injEq,Prod.mk.injEq]at H;obtain⟨rfl,rfl⟩:=H
       try go_wp2
       replace g0:=a0_ (az g0.out);replace HB:=a0_ (bp HB.out)
       refine gl (n:=34) (S:=fun w'=>w'.cell? ⟨g5,0,none⟩=some (.int .i64 a0_0)∧w'.cell? ⟨g5,1,none⟩=some (.bool a0_1)∧w'.cell? ⟨g5,2,none⟩=some (.bool a0_2)∧w'.cell? ⟨g5,3,none⟩=some (.int .i64 a0_3)∧w'.cell? ⟨g5,4,none⟩=some (.string a0_4)∧w'.cell? ⟨g5,5,none⟩=some (.int .i64 a0_5)∧w'.cell? ⟨g5,6,none⟩=some (.slice A0_6 l0_6.length c0_6)∧w'.cell? ⟨g5,7,none⟩=some (.slice A0_7 l0_7.length c0_7)) (ds:=[]) #[false,false,false,false,false,false,false,false,false,false,false,false,false,false,false,false,false,false,false,false,false,false,false,false,false,false,false,false,false,false,false,false,false,false] (by kernel_rfl) rfl rfl ⟨(af g0.out 0).trans rfl,(af g0.out 1).trans rfl,(af g0.out 2).trans rfl,(af g0.out 3).trans rfl,(af g0.out 4).trans rfl,(af g0.out 5).trans rfl,(af g0.out 6).trans rfl,(af g0.out 7).trans rfl⟩ (fun hHeld=>?_);refine ck ai.tab19 ai.bits19 (fun HT_ HW_=>?_)
       generalize wc.drew=C2 at g0 HB hHeld ⊢
       refine p_ 0 69 ?_
       refine p_ 3 72 ?_
       refine p_ 6 75 ?_
       refine p_ 10 79 ?_
       refine p_ 15 84 ?_
       refine p_ 20 89 ?_
       refine p_ 21 90 ?_
       refine p_ 24 93 ?_
       refine p_ 26 95 ?_
       refine p_ 30 99 ?_
       refine t_ 1 70 ?_
       refine t_ 7 76 ?_
       refine t_ 11 80 ?_
       refine p_ 12 81 ?_
       refine t_ 16 85 ?_
       refine p_ 17 86 ?_
       refine t_ 27 96 ?_
       refine dg 2 (some 71) (fun K hK=>?_)
       refine dm Tryz.func89 (by kernel_rfl) rfl #[.int .i64 a0_0,.int .i64 2] (by rfl) rfl rfl cS ?_
       with_reducible refine(aW.c kj38 a0_0 2 g6 _ X1.out).mono ?_
       rintro e C3 ⟨rfl,hb⟩;refine⟨_,rfl,?_⟩;replace g0:=a0_ (bq g0 hb);replace HB:=a0_ (aa aD hb)
       (try clear hb)
       (try clear hb2)
       (try clear hk)
       (try clear hi)
       refine hK.out _ _ ⟨(af g0.out 0).trans rfl,(af g0.out 1).trans rfl,(af g0.out 2).trans rfl,(af g0.out 3).trans rfl,(af g0.out 4).trans rfl,(af g0.out 5).trans rfl,(af g0.out 6).trans rfl,(af g0.out 7).trans rfl⟩ (fun hHeld=>?_);clear hK K
       refine cU ?_
       refine dg 4 (some 73) (fun K hK=>?_)
       refine dm Tryz.func89 (by kernel_rfl) rfl #[.int .i64 y2,.int .i64 1] (by rfl) rfl rfl cS ?_
       with_reducible refine(aW.c kj38 y2 1 g7 _ X2.out).mono ?_
       rintro e C4 ⟨rfl,hb⟩;refine⟨_,rfl,?_⟩;replace g0:=a0_ (bq g0 hb);replace HB:=a0_ (aa aD hb)
       (try clear hb)
       (try clear hb2)
       (try clear hk)
       (try clear hi)
       refine hK.out _ _ ⟨(af g0.out 0).trans rfl,(af g0.out 1).trans rfl,(af g0.out 2).trans rfl,(af g0.out 3).trans rfl,(af g0.out 4).trans rfl,(af g0.out 5).trans rfl,(af g0.out 6).trans rfl,(af g0.out 7).trans rfl⟩ (fun hHeld=>?_);clear hK K
       refine cU ?_
       refine p_ 5 74 ?_
       refine dg 8 (some 77) (fun K hK=>?_)
       refine dm Tryz.func89 (by kernel_rfl) rfl #[.int .i64 a0_3,.int .i64 1] (by rfl) rfl rfl cS ?_
       with_reducible refine(aW.c kj38 a0_3 1 g8 _ X3.out).mono ?_
       rintro e C5 ⟨rfl,hb⟩;refine⟨_,rfl,?_⟩;replace g0:=a0_ (bq g0 hb);replace HB:=a0_ (aa aD hb)
       (try clear hb)
       (try clear hb2)
       (try clear hk)
       (try clear hi)
       refine hK.out _ _ ⟨(af g0.out 0).trans rfl,(af g0.out 1).trans rfl,(af g0.out 2).trans rfl,(af g0.out 3).trans rfl,(af g0.out 4).trans rfl,(af g0.out 5).trans rfl,(af g0.out 6).trans rfl,(af g0.out 7).trans rfl⟩ (fun hHeld=>?_);clear hK K
       refine cU ?_
       refine p_ 9 78 ?_
       refine dg 13 (some 82) (fun K hK=>?_)
       refine dm Tryz.func89 (by kernel_rfl) rfl #[.int .i64 (l0_6.length:Int),.int .i64 1] (by rfl) rfl rfl cS ?_
       with_reducible refine(aW.c kj38 (l0_6.length:Int) 1 j0 _ X4.out).mono ?_
       rintro e C6 ⟨rfl,hb⟩;refine⟨_,rfl,?_⟩;replace g0:=a0_ (bq g0 hb);replace HB:=a0_ (aa aD hb)
       (try clear hb)
       (try clear hb2)
       (try clear hk)
       (try clear hi)
       refine hK.out _ _ ⟨(af g0.out 0).trans rfl,(af g0.out 1).trans rfl,(af g0.out 2).trans rfl,(af g0.out 3).trans rfl,(af g0.out 4).trans rfl,(af g0.out 5).trans rfl,(af g0.out 6).trans rfl,(af g0.out 7).trans rfl⟩ (fun hHeld=>?_);clear hK K
       refine cU ?_
       refine p_ 14 83 ?_
       refine dg 18 (some 87) (fun K hK=>?_)
       refine dm Tryz.func89 (by kernel_rfl) rfl #[.int .i64 (l0_7.length:Int),.int .i64 1] (by rfl) rfl rfl cS ?_
       with_reducible refine(aW.c kj38 (l0_7.length:Int) 1 j4 _ X5.out).mono ?_
       rintro e C7 ⟨rfl,hb⟩;refine⟨_,rfl,?_⟩;replace g0:=a0_ (bq g0 hb);replace HB:=a0_ (aa aD hb)
       (try clear hb)
       (try clear hb2)
       (try clear hk)
       (try clear hi)
       refine hK.out _ _ ⟨(af g0.out 0).trans rfl,(af g0.out 1).trans rfl,(af g0.out 2).trans rfl,(af g0.out 3).trans rfl,(af g0.out 4).trans rfl,(af g0.out 5).trans rfl,(af g0.out 6).trans rfl,(af g0.out 7).trans rfl⟩ (fun hHeld=>?_);clear hK K
       refine cU ?_
       refine p_ 19 88 ?_
       refine dg 22 (some 91) (fun K hK=>?_)
       refine dm Tryz.func89 (by kernel_rfl) rfl #[.int .i64 (j3.size:Int),.int .i64 2] (by rfl) rfl rfl cS ?_
       with_reducible refine(aW.c kj38 (j3.size:Int) 2 j8 _ X6.out).mono ?_
       rintro e C8 ⟨rfl,hb⟩;refine⟨_,rfl,?_⟩;replace g0:=a0_ (bq g0 hb);replace HB:=a0_ (aa aD hb)
       (try clear hb)
       (try clear hb2)
       (try clear hk)
       (try clear hi)
       refine hK.out _ _ ⟨(af g0.out 0).trans rfl,(af g0.out 1).trans rfl,(af g0.out 2).trans rfl,(af g0.out 3).trans rfl,(af g0.out 4).trans rfl,(af g0.out 5).trans rfl,(af g0.out 6).trans rfl,(af g0.out 7).trans rfl⟩ (fun hHeld=>?_);clear hK K
       refine cU ?_
       refine p_ 23 92 ?_
       refine p_ 25 94 ?_
       refine dg 28 (some 97) (fun K hK=>?_)
       refine dm Tryz.func89 (by kernel_rfl) rfl #[.int .i64 a0_5,.int .i64 1] (by rfl) rfl rfl cS ?_
       with_reducible refine(aW.c kj38 a0_5 1 y4 _ X7.out).mono ?_
       rintro e C9 ⟨rfl,hb⟩;refine⟨_,rfl,?_⟩;replace g0:=a0_ (bq g0 hb);replace HB:=a0_ (aa aD hb)
       (try clear hb)
       (try clear hb2)
       (try clear hk)
       (try clear hi)
       refine hK.out _ _ ⟨(af g0.out 0).trans rfl,(af g0.out 1).trans rfl,(af g0.out 2).trans rfl,(af g0.out 3).trans rfl,(af g0.out 4).trans rfl,(af g0.out 5).trans rfl,(af g0.out 6).trans rfl,(af g0.out 7).trans rfl⟩ (fun hHeld=>?_);clear hK K
       refine cU ?_
       refine p_ 29 98 ?_
       refine p_ 31 100 ?_
       refine p_ 32 2 ?_
       refine p_ 33 3 ?_
       refine dZ (db HT_.out (by kernel_rfl)) ?_
       try go_wp2
       go_ret2;exact⟨rr_,aD⟩
mutual
def bd.j0: Nat→Int→Bool→Int→Bool→Bool→Int→ByteArray→Int→List (S45)→List (S45)→Option (Int×Bool×Bool×Int×ByteArray×Int×(List (S45))×(List (S45))×Bool)
 | 0,_,_,_,_,_,_,_,_,_,_=>none
 | k+1,x1,j1,g2,g3,g4,g5,g6,g7,g0,g1=>if j1=true then(some (0,false,false,0,(⟨#[]⟩:ByteArray),0,([]:List (S45)),([]:List (S45)),false))else((some (([]:List (S45)):List (S45))).bind fun g8=>(if g8.length+g0.length<2932031007402 then((some (([]:List (S45)):List (S45))).bind fun g9=>(if g9.length+g1.length<2932031007402 then(bd.l0 k x1 g2 g3 g4 g5 g6 g7 (g8++g0) (g9++g1))else(none)))else(none)))
def bd.l0: Nat→Int→Int→Bool→Bool→Int→ByteArray→Int→List (S45)→List (S45)→Option (Int×Bool×Bool×Int×ByteArray×Int×(List (S45))×(List (S45))×Bool)
 | 0,_,_,_,_,_,_,_,_,_=>none
 | k+1,x1,g2,g3,g7,g4,g5,g6,g0,g1=>(ar.f k g2 g3 g7 g4 g5 g6 g0 g1).bind fun g8=>(if(g8.size:Int)>x1 then(if(g1.length:Int)>0 then((bB.f k g1).bind fun g9=>(bd.l0 k x1 g2 g3 true g4 g5 g6 g0 g9))else(if(g0.length:Int)>0 then((bB.f k g0).bind fun j0=>(bd.l0 k x1 g2 g3 true g4 g5 g6 j0 g1))else(some (0,false,false,0,(⟨#[]⟩:ByteArray),0,([]:List (S45)),([]:List (S45)),false))))else(some (g2,g3,g7,g4,g5,g6,g0,g1,true)))
end
def bd.f(k:Nat)(a0_0:Int)(a0_1:Bool)(a0_2:Bool)(a0_3:Int)(a0_4:ByteArray)(a0_5:Int)(l0_6:List (S45))(l0_7:List (S45))(a1:Int): Option (Int×Bool×Bool×Int×ByteArray×Int×(List (S45))×(List (S45))×Bool):=(bK.f k a0_0 a0_1 a0_2 a0_3 a0_4 a0_5 l0_6 l0_7).bind fun g0=>(if g0=true then(if a0_1=true then((cj.f a1 20 600).bind fun g1=>(bd.j0 k a1 (!g1) a0_0 a0_1 a0_2 a0_3 a0_4 a0_5 l0_6 l0_7))else(bd.j0 k a1 true a0_0 a0_1 a0_2 a0_3 a0_4 a0_5 l0_6 l0_7))else(bd.j0 k a1 true a0_0 a0_1 a0_2 a0_3 a0_4 a0_5 l0_6 l0_7))
theorem bd.c(k:Nat)(a0_0:Int)(a0_1:Bool)(a0_2:Bool)(a0_3:Int)(a0_4:ByteArray)(a0_5:Int)(A0_6:Option Addr)(c0_6:Nat)(l0_6:List (S45))(A0_7:Option Addr)(c0_7:Nat)(l0_7:List (S45))(a1:Int)(r1:Int)(r2:Bool)(r3:Bool)(r4:Int)(r5:ByteArray)(r6:Int)(r7:List (S45))(r8:List (S45))(r9:Bool)(w:World)(hr0_6:Kd.C k45 w A0_6 l0_6.length l0_6)(hc0_6:l0_6.length≤c0_6)(hr0_7:Kd.C k45 w A0_7 l0_7.length l0_7)(hc0_7:l0_7.length≤c0_7)(h:bd.f k a0_0 a0_1 a0_2 a0_3 a0_4 a0_5 l0_6 l0_7 a1=some (r1,r2,r3,r4,r5,r6,r7,r8,r9)):
 Calls Tryz.prog 39 #[.agg #[.int .i64 a0_0,.bool a0_1,.bool a0_2,.int .i64 a0_3,.string a0_4,.int .i64 a0_5,.slice A0_6 l0_6.length c0_6,.slice A0_7 l0_7.length c0_7],.int .i64 a1] w fun e w'=> ∃ v6_ v7_:Value,e = .returned (.tuple #[.agg #[.int .i64 r1,.bool r2,.bool r3,.int .i64 r4,.string r5,.int .i64 r6,v6_,v7_],.bool r9])∧Kd.R k45 45 w' w.heap.size (fun k_=>some k_≠(v7_:Value).ownBlock) v6_ r7∧Kd.R k45 45 w' w.heap.size (fun k_=>some k_≠(v6_:Value).ownBlock) v7_ r8∧Below w.heap.size w w':=by
 have hu62:=Tryz.underlying62;have HR0_6:=a0_ hr0_6;have HC0_6:=a0_ hc0_6;clear hr0_6 hc0_6;have HR0_7:=a0_ hr0_7;have HC0_7:=a0_ hc0_7;clear hr0_7 hc0_7;have HB:=a0_ (Below.refl w.heap.size w);have H:=h;clear h;unfold bd.f at H;have HC3:=a0_ H;clear H;go_enter Tryz.func39,Tryz.ntmps39;go_upto_region 1 with(first|((with_reducible refine ax (N:=2) rfl ?_);refine cm 2 #[.int .i64 a0_0,.bool a0_1,.bool a0_2,.int .i64 a0_3,.string a0_4,.int .i64 a0_5,.slice A0_6 l0_6.length c0_6,.slice A0_7 l0_7.length c0_7] 62 (fun g7 hg w4 hbox hb=>?_);have g0:=a0_ (hbox);have T0:=a0_ (gw_ hg:w.heap.size≤g7);replace HB:=a0_ (aa ay hb);have L7:=T0;clear hb hbox hg)|((with_reducible refine ax (N:=4) rfl ?_);refine cm 4 #[.int .i64 0,.bool false,.bool false,.int .i64 0,.string (⟨#[]⟩:ByteArray),.int .i64 0,.slice none 0 0,.slice none 0 0] 62 (fun g8 hg w5 hbox hb=>?_);have g5:=a0_ (hbox);have T1:=a0_ (gw_ hg (aj aD):w.heap.size≤g8);replace HB:=a0_ (aa aD hb);have j1:=a0_ ((by rw[hg];exact Nat.ne_of_lt (cB (g:=g7) (o:=.cells #[.int .i64 a0_0,.bool a0_1,.bool a0_2,.int .i64 a0_3,.string a0_4,.int .i64 a0_5,.slice A0_6 l0_6.length c0_6,.slice A0_7 l0_7.length c0_7] 62 (0,0)) (kB_ g0.out)):g7≠g8));have g9:=a0_ ((by rw[hg];exact Nat.ne_of_gt (cB (g:=g7) (o:=.cells #[.int .i64 a0_0,.bool a0_1,.bool a0_2,.int .i64 a0_3,.string a0_4,.int .i64 a0_5,.slice A0_6 l0_6.length c0_6,.slice A0_7 l0_7.length c0_7] 62 (0,0)) (kB_ g0.out)):g8≠g7));replace g0:=a0_ (bq g0 hb);have L8:=T1;clear hb hbox hg))
 (try simp only[Act.put,List.setIfInBounds_toArray,List.set_cons_zero,List.set_cons_succ])
 go_cut [18] (fun L4 wc=> ∃ (kq:Nat) (y8:Bool),L4 = .bool y8∧ab (bd.j0 kq a1 y8 a0_0 a0_1 a0_2 a0_3 a0_4 a0_5 l0_6 l0_7=some (r1,r2,r3,r4,r5,r6,r7,r8,r9))∧ab (kq≤k)∧ab (wc.heap[g7]? = some (.cells #[.int .i64 a0_0,.bool a0_1,.bool a0_2,.int .i64 a0_3,.string a0_4,.int .i64 a0_5,(.slice A0_6 l0_6.length c0_6),(.slice A0_7 l0_7.length c0_7)] 62 (0,0)))∧ab (wc.heap[g8]? = some (.cells #[.int .i64 0,.bool false,.bool false,.int .i64 0,.string (⟨#[]⟩:ByteArray),.int .i64 0,(.slice none 0 0),(.slice none 0 0)] 62 (0,0)))∧ab (Below w.heap.size w wc))
 case first=>
  have H:=HC3.out;clear HC3;obtain⟨B5,A6,H⟩:=ob_ H
  by_cases c7:B5=true
  case neg=>
   replace c7:=Bool.eq_false_iff.mpr c7;subst c7;rw[if_neg ff_]at H;have H':=a0_ H;clear H;have L9:=j1.out;have R0:=g9.out;obtain⟨T2,T3,T4,T5,T6,T7,T8,T9,V0,V1,V2,V3,V4,V5,V6,V7⟩:=bT g0.out;go_wp2_with (first|((with_reducible refine gt_ 101 rfl ?_);refine gs_ 7 Tryz.func101 #[.agg #[.int .i64 a0_0,.bool a0_1,.bool a0_2,.int .i64 a0_3,.string a0_4,.int .i64 a0_5,.slice A0_6 l0_6.length c0_6,.slice A0_7 l0_7.length c0_7]] ?_;(with_reducible refine(bK.c k a0_0 a0_1 a0_2 a0_3 a0_4 a0_5 _ _ l0_6 _ _ l0_7 false _ ?side1 ?side2 ?side3 ?side4 A6.out).mono ?_);(case side1=>exact kC_ HR0_6.out HB.out);(case side2=>exact HC0_6.out);(case side3=>exact kC_ HR0_7.out HB.out);(case side4=>exact HC0_7.out);rintro e w20 ⟨rfl,hb⟩;refine⟨_,rfl,?_⟩;replace g0:=a0_ (bq g0 hb);replace g5:=a0_ (bq g5 hb);replace HB:=a0_ (aa aD hb);clear hb));go_meet
   case rel=>exact⟨_,(true),rs_,H',⟨by first|omega|exact Nat.le_refl _⟩,⟨bz_⟩,⟨bz_⟩,⟨aD⟩⟩
  subst c7;rw[if_pos rfl]at H
  by_cases c8:a0_1=true
  case neg=>
   replace c8:=Bool.eq_false_iff.mpr c8;subst c8;rw[if_neg ff_]at H;have H':=a0_ H;clear H;have R1:=j1.out;have R2:=g9.out;obtain⟨V8,V9,G0,G1,G2,G3,G4,G5,G6,G7,G8,G9,J0,J1,J2,J3⟩:=bT g0.out;go_wp2_with (first|((with_reducible refine gt_ 101 rfl ?_);refine gs_ 7 Tryz.func101 #[.agg #[.int .i64 a0_0,.bool false,.bool a0_2,.int .i64 a0_3,.string a0_4,.int .i64 a0_5,.slice A0_6 l0_6.length c0_6,.slice A0_7 l0_7.length c0_7]] ?_;(with_reducible refine(bK.c k a0_0 false a0_2 a0_3 a0_4 a0_5 _ _ l0_6 _ _ l0_7 true _ ?side1 ?side2 ?side3 ?side4 A6.out).mono ?_);(case side1=>exact kC_ HR0_6.out HB.out);(case side2=>exact HC0_6.out);(case side3=>exact kC_ HR0_7.out HB.out);(case side4=>exact HC0_7.out);rintro e w16 ⟨rfl,hb⟩;refine⟨_,rfl,?_⟩;replace g0:=a0_ (bq g0 hb);replace g5:=a0_ (bq g5 hb);replace HB:=a0_ (aa aD hb);clear hb;obtain⟨J4,J5,J6,J7,J8,J9,Q0,Q1,Q2,Q3,Q4,Q5,Q6,Q7,Q8,Q9⟩:=bT g0.out));go_meet
   case rel=>exact⟨_,(true),rs_,H',⟨by first|omega|exact Nat.le_refl _⟩,⟨bz_⟩,⟨bz_⟩,⟨aD⟩⟩
  subst c8;rw[if_pos rfl]at H;obtain⟨f9,A9,H⟩:=ob_ H;have H':=a0_ H;clear H;have R3:=j1.out;have R4:=g9.out;obtain⟨D0,D1,D2,D3,D4,D5,D6,D7,D8,D9,Y0,Y1,Y2,Y3,Y4,Y5⟩:=bT g0.out;go_wp2_with (first|((with_reducible refine gt_ 101 rfl ?_);refine gs_ 7 Tryz.func101 #[.agg #[.int .i64 a0_0,.bool true,.bool a0_2,.int .i64 a0_3,.string a0_4,.int .i64 a0_5,.slice A0_6 l0_6.length c0_6,.slice A0_7 l0_7.length c0_7]] ?_;(with_reducible refine(bK.c k a0_0 true a0_2 a0_3 a0_4 a0_5 _ _ l0_6 _ _ l0_7 true _ ?side1 ?side2 ?side3 ?side4 A6.out).mono ?_);(case side1=>exact kC_ HR0_6.out HB.out);(case side2=>exact HC0_6.out);(case side3=>exact kC_ HR0_7.out HB.out);(case side4=>exact HC0_7.out);rintro e w12 ⟨rfl,hb⟩;refine⟨_,rfl,?_⟩;replace g0:=a0_ (bq g0 hb);replace g5:=a0_ (bq g5 hb);replace HB:=a0_ (aa aD hb);clear hb;obtain⟨Y6,Y7,Y8,Y9,Z0,Z1,Z2,Z3,Z4,Z5,Z6,Z7,Z8,Z9,F0,F1⟩:=bT g0.out)|(go_at_call 102;(with_reducible refine(cj.c a1 20 600 f9 _ A9.out).mono ?_);rintro e w' ⟨rfl,⟨nd,rfl⟩⟩));go_meet
  case rel=>exact⟨_,(!f9),rs_,H',⟨by first|omega|exact Nat.le_refl _⟩,⟨bz_⟩,⟨bz_⟩,⟨aD⟩⟩
 case rest=>
  clear HC3;obtain⟨kq,y8,rfl,HA,HJ2,g0,g5,HB⟩:=hcut
  cases kq with
  | zero=>exact absurd HA.out (by simp[bd.j0])
  | succ kj2=>
   have H:=HA.out;clear HA;simp only[bd.j0]at H
   by_cases z3:y8=true
   case pos=>
    subst z3;rw[if_pos rfl]at H;simp only[Option.some.injEq,Prod.mk.injEq]at H;obtain⟨rfl,rfl,rfl,rfl,rfl,rfl,rfl,rfl,rfl⟩:=H;have R5:=g9.out;have R6:=j1.out;obtain⟨_,_,_,_,_,_,_,_,_,_,_,_,_,_,_,_⟩:=bT g5.out;go_wp2
    refine bodyPost_ret (dQ rfl _ _ g8 62 #[.int .i64 0,.bool false,.bool false,.int .i64 0,.string (⟨#[]⟩:ByteArray),.int .i64 0,.slice none 0 0,.slice none 0 0] (0,0) _ rfl (fy g5.out) Tryz.underlying62 rfl (by kernel_rfl)) rfl ?_
    exact⟨_,_,rr_,by first|exact Kd.R_nil _ _ _ _ _|exact Kd.N_nil _ _ _ _ _|exact Kd.V_nil _ _ _ _ _|exact Kd.Q_nil _ _ _ _ _|exact Kd.S_nil _ _ _ _ _,by first|exact Kd.R_nil _ _ _ _ _|exact Kd.N_nil _ _ _ _ _|exact Kd.V_nil _ _ _ _ _|exact Kd.Q_nil _ _ _ _ _|exact Kd.S_nil _ _ _ _ _,aD⟩
   replace z3:=Bool.eq_false_iff.mpr z3;subst z3;rw[if_neg ff_]at H;obtain⟨z6,b7⟩:∃ y_:List (S45),y_=(([]:List (S45))):=⟨_,rfl⟩;replace H:=by_ b7 H;have f3:=a0_ b7;clear b7
   by_cases z4:z6.length+l0_6.length<2932031007402
   case neg=>
    rw[if_neg z4]at H;exact absurd H (by simp)
   rw[if_pos z4]at H;have F2:=a0_ z4;clear z4;obtain⟨j9,y2⟩:∃ y_:List (S45),y_=(z6++l0_6):=⟨_,rfl⟩
   replace H:((some (([]:List (S45)):List (S45))).bind fun y4=>(if y4.length+l0_7.length<2932031007402 then(bd.l0 kj2 a1 a0_0 a0_1 a0_2 a0_3 a0_4 a0_5 j9 (y4++l0_7))else(none)))=some (r1,r2,r3,r4,r5,r6,r7,r8,r9):=by first|(rw[y2];with_reducible exact H)|(have H2_:=(Option.bind_some _ _).symm.trans H;rw[y2];with_reducible exact H2_)|(have H2_:=(Option.bind_some _ _).symm.trans H;with_reducible exact H2_)|with_reducible exact H|(rw[y2];exact H)|exact H
   have F3:=a0_ y2;clear y2;obtain⟨y4,b8⟩:∃ y_:List (S45),y_=(([]:List (S45))):=⟨_,rfl⟩;replace H:=by_ b8 H;have f4:=a0_ b8;clear b8
   by_cases z5:y4.length+l0_7.length<2932031007402
   case neg=>
    rw[if_neg z5]at H;exact absurd H (by simp)
   rw[if_pos z5]at H;have F4:=a0_ z5;clear z5;obtain⟨b1,y3⟩:∃ y_:List (S45),y_=(y4++l0_7):=⟨_,rfl⟩
   replace H:(bd.l0 kj2 a1 a0_0 a0_1 a0_2 a0_3 a0_4 a0_5 j9 b1)=some (r1,r2,r3,r4,r5,r6,r7,r8,r9):=by first|(rw[y3];with_reducible exact H)|(have H2_:=(Option.bind_some _ _).symm.trans H;rw[y3];with_reducible exact H2_)|(have H2_:=(Option.bind_some _ _).symm.trans H;with_reducible exact H2_)|with_reducible exact H|(rw[y3];exact H)|exact H
   have F5:=a0_ y3;clear y3;have H':=a0_ H;clear H;go_wp2_with (first|((with_reducible refine ax (N:=20) rfl ?_);refine Kd.R_lit k45 _ 45 ?hg (N:=20) ?hd (xs:=([]:List (S45))) (inner:=[]) (ok:=fun _=>True) (okp:=fun _=>True) ?hr ?hp (fun _ hk=>hk) trivial (Below.refl _ _) (Nat.le_refl _) (by simp) ?_;(case hd=>rfl);(case hg=>rfl);(case hr=>first|(go_simp;done)|(go_simp;rfl));(case hp=>exact(br.none _ _));intro B6 w26 b2 hb hg_ hnew_;clear hg_ hnew_;(first|rw[← f3.out]at b2|(simp only[Int.reduceToNat]at b2;rw[← f3.out]at b2));have y9:=a0_ (Kd.R_lower b2 (aj aD));replace g0:=a0_ (bq g0 hb);replace g5:=a0_ (bq g5 hb);replace HB:=a0_ (aa aD hb);clear hb b2;have R7:=j1.out;have R8:=g9.out;obtain⟨F6,F7,F8,F9,N0,N1,N2,N3,N4,N5,N6,N7,N8,N9,X0,X1⟩:=bT g0.out)|((with_reducible refine bz (b:=.append) (xs:=#[.tmp 20,.tmp 22]) rfl ?_);at_builtin;refine Kd.R_append_rows k45 (w0:=w) w.heap.size rfl (.tmp 20) (.tmp 22) 27 45 (.agg #[(.string ⟨#[]⟩),(.int .i64 0),(.int .i64 0),(.string ⟨#[]⟩)]) 48 rfl Tryz.underlying27 dz rfl (by decide) (by omega) B6 z6 l0_6 _ _ _ (fun _=>True) (fun _=>False) rfl rfl ?aO ?aR (fun _ _ h=>h) (fun _ h=>h.elim) ?aF ?aB ?aS ?aL ?_;(case aR=>repeat(first|exact(Kd.C_below HR0_6.out HB.out)|(with_reducible refine Kd.C_alloc ?_ _)|(with_reducible refine Kd.C_drewN ?_ _)|(with_reducible refine Kd.C_drew ?_)));(case aB=>exact aD);(case aF=>exact(fun _ _=>trivial));(case aO=>exact(kR_ y9.out));(case aS=>exact(aj aD));(case aL=>have:=F2.out;omega);intro S7 w30 ho hb hg hat;rw[← F3.out]at ho;replace g0:=a0_ (cp (g:=g7) (o:=.cells #[.int .i64 a0_0,.bool a0_1,.bool a0_2,.int .i64 a0_3,.string a0_4,.int .i64 a0_5,.slice A0_6 l0_6.length c0_6,.slice A0_7 l0_7.length c0_7] 62 (0,0)) (kB_ g0.out) hg (Kd.R_ne y9.out g0.out (by decide)));replace g5:=a0_ (cp (g:=g8) (o:=.cells #[.int .i64 0,.bool false,.bool false,.int .i64 0,.string (⟨#[]⟩:ByteArray),.int .i64 0,.slice none 0 0,.slice none 0 0] 62 (0,0)) (kB_ g5.out) hg (Kd.R_ne y9.out g5.out (by decide)));replace HB:=a0_ (hb);have j2:=a0_ (ho);clear y9;clear ho hb hg hat;obtain⟨y0,y1,B7⟩:=Kd.R_slice j2.out;subst B7;obtain⟨X2,X3,X4,X5,X6,X7,X8,X9,E0,E1,E2,E3,E4,E5,E6,E7⟩:=bT g0.out)|((with_reducible refine ax (N:=25) rfl ?_);refine Kd.R_lit k45 _ 45 ?hg (N:=25) ?hd (xs:=([]:List (S45))) (inner:=[]) (ok:=fun _=>True) (okp:=fun _=>True) ?hr ?hp (fun _ hk=>hk) trivial (Below.refl _ _) (Nat.le_refl _) (by simp) ?_;(case hd=>rfl);(case hg=>rfl);(case hr=>first|(go_simp;done)|(go_simp;rfl));(case hp=>exact(br.none _ _));intro B8 w33 y5 hb hg_ hnew_;clear hg_ hnew_;(first|rw[← f4.out]at y5|(simp only[Int.reduceToNat]at y5;rw[← f4.out]at y5));have b0:=a0_ (Kd.R_lower (Kd.R_new' y5 (Kd.R_lt (kR_ (Kd.R_mono (Kd.R_far (p:=⟨g7,6,none⟩) (Kd.R_types j2.out g0.out (by decide)) (fun _ hk=>hk.2) (.slice y0 j9.length y1)) (fun _ h_=>h_.1))))) (aj aD));replace j2:=a0_ (Kd.R_elder' (kR_ (Kd.R_mono (Kd.R_far (p:=⟨g7,6,none⟩) (Kd.R_types j2.out g0.out (by decide)) (fun _ hk=>hk.2) (.slice y0 j9.length y1)) (fun _ h_=>h_.1))) (Kd.R_base y5) hb);replace g5:=a0_ (b_ (g:=g8) (o:=.cells #[.int .i64 0,.bool false,.bool false,.int .i64 0,.string (⟨#[]⟩:ByteArray),.int .i64 0,.slice none 0 0,.slice none 0 0] 62 (0,0)) bz_ hb);replace g0:=a0_ (b_ (g:=g7) (o:=.cells #[.int .i64 a0_0,.bool a0_1,.bool a0_2,.int .i64 a0_3,.string a0_4,.int .i64 a0_5,.slice y0 j9.length y1,.slice A0_7 l0_7.length c0_7] 62 (0,0)) (by(with_reducible repeat(first|refine aI ?_ _|refine az ?_|refine aE ?_ _));refine bE (cs:=#[.int .i64 a0_0,.bool a0_1,.bool a0_2,.int .i64 a0_3,.string a0_4,.int .i64 a0_5,.slice A0_6 l0_6.length c0_6,.slice A0_7 l0_7.length c0_7]) ?_ 6 _ rfl;(with_reducible repeat(first|refine aI ?_ _|refine az ?_|refine aE ?_ _));exact g0.out) hb);replace HB:=a0_ (aa aD hb);clear hb y5;obtain⟨E8,E9,O0,O1,O2,O3,O4,O5,O6,O7,O8,O9,W0,W1,W2,W3⟩:=bT g0.out)|((with_reducible refine bz (b:=.append) (xs:=#[.tmp 25,.tmp 27]) rfl ?_);at_builtin;refine Kd.R_append_rows k45 (w0:=w) w.heap.size rfl (.tmp 25) (.tmp 27) 27 45 (.agg #[(.string ⟨#[]⟩),(.int .i64 0),(.int .i64 0),(.string ⟨#[]⟩)]) 48 rfl Tryz.underlying27 dz rfl (by decide) (by omega) B8 y4 l0_7 _ _ _ (fun k_=>nw_ k_ y0 j9.length y1) (fun _=>False) rfl rfl ?aO ?aR (fun _ _ h=>h) (fun _ h=>h.elim) ?aF ?aB ?aS ?aL ?_;(case aR=>repeat(first|exact(Kd.C_below HR0_7.out HB.out)|(with_reducible refine Kd.C_alloc ?_ _)|(with_reducible refine Kd.C_drewN ?_ _)|(with_reducible refine Kd.C_drew ?_)));(case aB=>exact aD);(case aF=>exact(fun k_ hk=>Kd.fresh' (Kd.R_lt (kR_ j2.out)) k_ hk));(case aO=>exact(kR_ (Kd.R_mono b0.out (fun _ hk=>hk.2))));(case aS=>exact(aj aD));(case aL=>have:=F4.out;omega);intro S8 w36 ho hb hg hat;rw[← F5.out]at ho;replace g0:=a0_ (cp (g:=g7) (o:=.cells #[.int .i64 a0_0,.bool a0_1,.bool a0_2,.int .i64 a0_3,.string a0_4,.int .i64 a0_5,.slice y0 j9.length y1,.slice A0_7 l0_7.length c0_7] 62 (0,0)) (kB_ g0.out) hg (Kd.R_ne b0.out g0.out (by decide)));replace g5:=a0_ (cp (g:=g8) (o:=.cells #[.int .i64 0,.bool false,.bool false,.int .i64 0,.string (⟨#[]⟩:ByteArray),.int .i64 0,.slice none 0 0,.slice none 0 0] 62 (0,0)) (kB_ g5.out) hg (Kd.R_ne b0.out g5.out (by decide)));replace j2:=a0_ (Kd.R_after (ok:=(fun _=>True)) (kR_ j2.out) hg hat);replace HB:=a0_ (hb);have f5:=a0_ (ho);clear b0;clear ho hb hg hat;obtain⟨z7,z8,B9⟩:=Kd.R_slice f5.out;subst B9;obtain⟨W4,W5,W6,W7,W8,W9,C0,C1,C2,C3,C4,C5,C6,C7,C8,C9⟩:=bT g0.out));go_loopg [] kj2 (fun kq w'=> ∃ (g6:Bool) (g3:List (S45)) (g4:List (S45)) (j3:Int) (j4:Bool) (j5:Bool) (j6:Int) (j7:ByteArray) (j8:Int) (u962006:Value) (u962007:Value),ab (bd.l0 kq a1 a0_0 a0_1 g6 a0_3 a0_4 a0_5 g3 g4=some (r1,r2,r3,r4,r5,r6,r7,r8,r9))∧ab (kq≤kj2)∧ab (Kd.R k45 45 w' w.heap.size (fun k_=>some k_≠(u962007:Value).ownBlock) u962006 g3)∧ab (Kd.R k45 45 w' w.heap.size (fun k_=>some k_≠(u962006:Value).ownBlock) u962007 g4)∧ab (w'.heap[g7]? = some (.cells #[.int .i64 a0_0,.bool a0_1,.bool g6,.int .i64 a0_3,.string a0_4,.int .i64 a0_5,u962006,u962007] 62 (0,0)))∧ab (w'.heap[g8]? = some (.cells #[.int .i64 j3,.bool j4,.bool j5,.int .i64 j6,.string j7,.int .i64 j8,(.slice none 0 0),(.slice none 0 0)] 62 (0,0)))∧ab (Below w.heap.size w w'))
   case atStart=>exact⟨(a0_2),(j9),(b1),(0),(false),(false),(0),((⟨#[]⟩:ByteArray)),(0),(.slice y0 j9.length y1),(.slice z7 b1.length z8),H',⟨Nat.le_refl _⟩,⟨by(with_reducible repeat(first|apply Kd.R_alloc|apply Kd.R_drewN|apply Kd.R_drew));exact Kd.R_mono (Kd.R_far (p:=⟨g7,7,none⟩) (Kd.R_types j2.out g0.out (by decide)) (fun _ hk=>hk.2) (.slice z7 b1.length z8)) (fun _ hk=>hk.1.2)⟩,⟨by(with_reducible repeat(first|apply Kd.R_alloc|apply Kd.R_drewN|apply Kd.R_drew));exact Kd.R_mono (Kd.R_far (p:=⟨g7,7,none⟩) (Kd.R_types f5.out g0.out (by decide)) (fun _ hk=>hk.2) (.slice z7 b1.length z8)) (fun _ hk=>hk.1)⟩,⟨by(with_reducible repeat(first|refine aI ?_ _|refine az ?_|refine aE ?_ _));refine bE (cs:=#[.int .i64 a0_0,.bool a0_1,.bool a0_2,.int .i64 a0_3,.string a0_4,.int .i64 a0_5,.slice y0 j9.length y1,.slice A0_7 l0_7.length c0_7]) ?_ 7 _ rfl;(with_reducible repeat(first|refine aI ?_ _|refine az ?_|refine aE ?_ _));exact g0.out⟩,⟨bz_⟩,⟨aD⟩⟩
   case round=>
    clear H'
    try clear c1
    try clear p2
    try clear c3
    try clear c7
    try clear c8
    try clear c10
    try clear c14
    try clear c18
    try clear z3
    try clear z4
    try clear z5
    try clear D0 D1 D2 D3 D4 D5 D6 D7
    try clear Y6 Y7 Y8 Y9 Z0 Z1 Z2 Z3
    try clear V8 V9 G0 G1 G2 G3 G4 G5
    try clear J4 J5 J6 J7 J8 J9 Q0 Q1
    try clear T2 T3 T4 T5 T6 T7 T8 T9
    try clear F6 F7 F8 F9 N0 N1 N2 N3
    try clear X2 X3 X4 X5 X6 X7 X8 X9
    try clear E8 E9 O0 O1 O2 O3 O4 O5
    try clear W4 W5 W6 W7 W8 W9 C0 C1
    try clear D8 D9 Y0 Y1 Y2 Y3 Y4 Y5
    try clear Z4 Z5 Z6 Z7 Z8 Z9 F0 F1
    try clear G6 G7 G8 G9 J0 J1 J2 J3
    try clear Q2 Q3 Q4 Q5 Q6 Q7 Q8 Q9
    try clear V0 V1 V2 V3 V4 V5 V6 V7
    try clear N4 N5 N6 N7 N8 N9 X0 X1
    try clear E0 E1 E2 E3 E4 E5 E6 E7
    try clear O6 O7 O8 O9 W0 W1 W2 W3
    try clear C2 C3 C4 C5 C6 C7 C8 C9
    try clear p2
    obtain⟨g6,g3,g4,j3,j4,j5,j6,j7,j8,u962006,u962007,HA,HK2,g1,g2,g0,g5,HB⟩:=hrel
    cases gk with
    | zero=>exact absurd HA.out (by simp[bd.l0])
    | succ k2=>
     have H:=HA.out;clear HA;simp only[bd.l0]at H;obtain⟨b3,f6,H⟩:=ob_ H
     by_cases b4:(b3.size:Int)>a1
     case neg=>
      rw[if_neg b4]at H;have B0:=decide_eq_false b4;clear b4;simp only[Option.some.injEq,Prod.mk.injEq]at H;obtain⟨rfl,rfl,rfl,rfl,rfl,rfl,rfl,rfl,rfl⟩:=H;have R9:=j1.out;have S0:=g9.out;obtain⟨_,_,_,_,_,_,_,_,_,_,_,_,_,_,_,_⟩:=bT g0.out;obtain⟨b9,d0,M0⟩:=Kd.R_slice g1.out;subst M0;obtain⟨d3,d4,M1⟩:=Kd.R_slice g2.out;subst M1;go_wp2_with (first|((with_reducible refine gt_ 103 rfl ?_);refine gs_ 31 Tryz.func103 #[.agg #[.int .i64 a0_0,.bool a0_1,.bool g6,.int .i64 a0_3,.string a0_4,.int .i64 a0_5,.slice b9 g3.length d0,.slice d3 g4.length d4]] ?_;(with_reducible refine(ar.c k2 a0_0 a0_1 g6 a0_3 a0_4 a0_5 _ _ g3 _ _ g4 b3 _ ?side1 ?side2 ?side3 ?side4 f6.out).mono ?_);(case side1=>exact kD_ (Kd.R_reads' g1.out).2.2);(case side2=>exact(Kd.R_reads' g1.out).2.1);(case side3=>exact kD_ (Kd.R_reads' g2.out).2.2);(case side4=>exact(Kd.R_reads' g2.out).2.1);rintro e w74 ⟨rfl,hb⟩;refine⟨_,rfl,?_⟩;replace g1:=a0_ (Kd.R_below (kR_ g1.out) hb);replace g2:=a0_ (Kd.R_below (kR_ g2.out) hb);replace g0:=a0_ (bq g0 hb);replace g5:=a0_ (bq g5 hb);replace HB:=a0_ (aa aD hb);clear hb;obtain⟨_,_,_,_,_,_,_,_,_,_,_,_,_,_,_,_⟩:=bT g0.out;obtain⟨_,_,_,_,_,_,_,_,_,_,_,_,_,_,_,_⟩:=bT g5.out))
      refine bodyPost_ret (dQ rfl _ _ g8 62 #[.int .i64 a0_0,.bool a0_1,.bool g6,.int .i64 a0_3,.string a0_4,.int .i64 a0_5,.slice b9 g3.length d0,.slice d3 g4.length d4] (0,0) _ rfl (fy g5.out) Tryz.underlying62 rfl (by kernel_rfl)) rfl ?_
      exact⟨_,_,rr_,by(with_reducible repeat(first|apply Kd.R_alloc|apply Kd.R_drewN|apply Kd.R_drew));exact Kd.R_mono (Kd.R_far (p:=⟨g8,7,none⟩) (Kd.R_far (p:=⟨g8,6,none⟩) (Kd.R_far (p:=⟨g8,5,none⟩) (Kd.R_far (p:=⟨g8,4,none⟩) (fX g8 (Kd.R_types g1.out g5.out (by decide)) (fun _ hk=>hk.2) (.int .i64 a0_0) (.bool a0_1) (.bool g6) (.int .i64 a0_3)) (fun _ hk=>hk.2) (.string a0_4)) (fun _ hk=>hk.2) (.int .i64 a0_5)) (fun _ hk=>hk.2) (.slice b9 g3.length d0)) (fun _ hk=>hk.2) (.slice d3 g4.length d4)) (fun _ hk=>hk.1),by(with_reducible repeat(first|apply Kd.R_alloc|apply Kd.R_drewN|apply Kd.R_drew));exact Kd.R_mono (Kd.R_far (p:=⟨g8,7,none⟩) (Kd.R_far (p:=⟨g8,6,none⟩) (Kd.R_far (p:=⟨g8,5,none⟩) (Kd.R_far (p:=⟨g8,4,none⟩) (fX g8 (Kd.R_types g2.out g5.out (by decide)) (fun _ hk=>hk.2) (.int .i64 a0_0) (.bool a0_1) (.bool g6) (.int .i64 a0_3)) (fun _ hk=>hk.2) (.string a0_4)) (fun _ hk=>hk.2) (.int .i64 a0_5)) (fun _ hk=>hk.2) (.slice b9 g3.length d0)) (fun _ hk=>hk.2) (.slice d3 g4.length d4)) (fun _ hk=>hk.1),aD⟩
     rw[if_pos b4]at H;have B0:=decide_eq_true b4;clear b4
     by_cases b5:(g4.length:Int)>0
     case pos=>
      rw[if_pos b5]at H;have B1:=decide_eq_true b5;have B2:decide (0<g4.length)=true:=decide_eq_true (by omega);clear b5;obtain⟨y6,L5,H⟩:=ob_ H;have H':=a0_ H;clear H;have S1:=j1.out;have S2:=g9.out;obtain⟨_,_,_,_,_,_,_,_,_,_,_,_,_,_,_,_⟩:=bT g0.out;obtain⟨d5,d6,M2⟩:=Kd.R_slice g1.out;subst M2;obtain⟨z9,f0,M3⟩:=Kd.R_slice g2.out;subst M3;go_wp2_with (first|((with_reducible refine gt_ 103 rfl ?_);refine gs_ 31 Tryz.func103 #[.agg #[.int .i64 a0_0,.bool a0_1,.bool g6,.int .i64 a0_3,.string a0_4,.int .i64 a0_5,.slice d5 g3.length d6,.slice z9 g4.length f0]] ?_;(with_reducible refine(ar.c k2 a0_0 a0_1 g6 a0_3 a0_4 a0_5 _ _ g3 _ _ g4 b3 _ ?side1 ?side2 ?side3 ?side4 f6.out).mono ?_);(case side1=>exact kD_ (Kd.R_reads' g1.out).2.2);(case side2=>exact(Kd.R_reads' g1.out).2.1);(case side3=>exact kD_ (Kd.R_reads' g2.out).2.2);(case side4=>exact(Kd.R_reads' g2.out).2.1);rintro e w47 ⟨rfl,hb⟩;refine⟨_,rfl,?_⟩;replace g1:=a0_ (Kd.R_below (kR_ g1.out) hb);replace g2:=a0_ (Kd.R_below (kR_ g2.out) hb);replace g0:=a0_ (bq g0 hb);replace g5:=a0_ (bq g5 hb);replace HB:=a0_ (aa aD hb);clear hb;obtain⟨_,_,_,_,_,_,_,_,_,_,_,_,_,_,_,_⟩:=bT g0.out)|((with_reducible refine gt_ 104 rfl ?_);refine gs_ 43 Tryz.func104 #[.slice z9 g4.length f0] ?_;(with_reducible refine(bB.c k2 _ _ g4 y6 _ ?side1 ?side2 L5.out).mono ?_);(case side1=>exact kD_ (Kd.R_reads' g2.out).2.2);(case side2=>exact(Kd.R_reads' g2.out).2.1);rintro e w49 ⟨S9,rfl,ho0,hb⟩;refine⟨_,rfl,?_⟩;have f7:=a0_ (Kd.R_lower (Kd.R_new' (Kd.R_new' ho0 (Kd.R_lt (kR_ g1.out))) (Kd.R_lt (kR_ g2.out))) (aj aD));replace g1:=a0_ (Kd.R_elder' (kR_ g1.out) (Kd.R_base ho0) hb);replace g2:=a0_ (Kd.R_elder' (kR_ g2.out) (Kd.R_base ho0) hb);replace g0:=a0_ (bq g0 hb);replace g5:=a0_ (bq g5 hb);replace HB:=a0_ (aa aD hb);clear hb;(try clear ho0);obtain⟨d7,d8,M4⟩:=Kd.R_slice f7.out;subst M4;obtain⟨_,_,_,_,_,_,_,_,_,_,_,_,_,_,_,_⟩:=bT g0.out));go_roundg k2
      case measure=>have:=HJ2.out;have:=HK2.out;omega
      case rel=>exact⟨(true),(g3),(y6),(j3),(j4),(j5),(j6),(j7),(j8),(.slice d5 g3.length d6),(.slice d7 y6.length d8),H',jm_ HJ2 HK2,⟨by(with_reducible repeat(first|apply Kd.R_alloc|apply Kd.R_drewN|apply Kd.R_drew));exact Kd.R_mono (Kd.R_far (p:=⟨g7,2,none⟩) (Kd.R_far (p:=⟨g7,7,none⟩) (Kd.R_types g1.out g0.out (by decide)) (fun _ hk=>hk.2) (.slice d7 y6.length d8)) (fun _ hk=>hk.2) (.bool true)) (fun _ hk=>hk.1.2)⟩,⟨by(with_reducible repeat(first|apply Kd.R_alloc|apply Kd.R_drewN|apply Kd.R_drew));exact Kd.R_mono (Kd.R_far (p:=⟨g7,2,none⟩) (Kd.R_far (p:=⟨g7,7,none⟩) (Kd.R_types f7.out g0.out (by decide)) (fun _ hk=>hk.2) (.slice d7 y6.length d8)) (fun _ hk=>hk.2) (.bool true)) (fun _ hk=>hk.1.1.2)⟩,⟨by(with_reducible repeat(first|refine aI ?_ _|refine az ?_|refine aE ?_ _));refine bE (cs:=#[.int .i64 a0_0,.bool a0_1,.bool g6,.int .i64 a0_3,.string a0_4,.int .i64 a0_5,.slice d5 g3.length d6,.slice d7 y6.length d8]) ?_ 2 _ rfl;(with_reducible repeat(first|refine aI ?_ _|refine az ?_|refine aE ?_ _));refine bE (cs:=#[.int .i64 a0_0,.bool a0_1,.bool g6,.int .i64 a0_3,.string a0_4,.int .i64 a0_5,.slice d5 g3.length d6,.slice z9 g4.length f0]) ?_ 7 _ rfl;(with_reducible repeat(first|refine aI ?_ _|refine az ?_|refine aE ?_ _));exact g0.out⟩,⟨iW g9.out g5.out⟩,⟨aD⟩⟩
     rw[if_neg b5]at H;have B1:=decide_eq_false b5;have B2:decide (0<g4.length)=false:=decide_eq_false (by omega);clear b5
     by_cases b6:(g3.length:Int)>0
     case neg=>
      rw[if_neg b6]at H;have B3:=decide_eq_false b6;have B4:decide (0<g3.length)=false:=decide_eq_false (by omega);clear b6;simp only[Option.some.injEq,Prod.mk.injEq]at H;obtain⟨rfl,rfl,rfl,rfl,rfl,rfl,rfl,rfl,rfl⟩:=H;have S3:=j1.out;have S4:=g9.out;obtain⟨_,_,_,_,_,_,_,_,_,_,_,_,_,_,_,_⟩:=bT g0.out;obtain⟨M5,M6,M7⟩:=Kd.R_slice g1.out;subst M7;obtain⟨M8,M9,L0⟩:=Kd.R_slice g2.out;subst L0;go_wp2_with (first|((with_reducible refine gt_ 103 rfl ?_);refine gs_ 31 Tryz.func103 #[.agg #[.int .i64 a0_0,.bool a0_1,.bool g6,.int .i64 a0_3,.string a0_4,.int .i64 a0_5,.slice M5 g3.length M6,.slice M8 g4.length M9]] ?_;(with_reducible refine(ar.c k2 a0_0 a0_1 g6 a0_3 a0_4 a0_5 _ _ g3 _ _ g4 b3 _ ?side1 ?side2 ?side3 ?side4 f6.out).mono ?_);(case side1=>exact kD_ (Kd.R_reads' g1.out).2.2);(case side2=>exact(Kd.R_reads' g1.out).2.1);(case side3=>exact kD_ (Kd.R_reads' g2.out).2.2);(case side4=>exact(Kd.R_reads' g2.out).2.1);rintro e w67 ⟨rfl,hb⟩;refine⟨_,rfl,?_⟩;replace g1:=a0_ (Kd.R_below (kR_ g1.out) hb);replace g2:=a0_ (Kd.R_below (kR_ g2.out) hb);replace g0:=a0_ (bq g0 hb);replace g5:=a0_ (bq g5 hb);replace HB:=a0_ (aa aD hb);clear hb;obtain⟨_,_,_,_,_,_,_,_,_,_,_,_,_,_,_,_⟩:=bT g0.out;obtain⟨_,_,_,_,_,_,_,_,_,_,_,_,_,_,_,_⟩:=bT g5.out))
      refine bodyPost_ret (dQ rfl _ _ g8 62 #[.int .i64 0,.bool false,.bool false,.int .i64 0,.string (⟨#[]⟩:ByteArray),.int .i64 0,.slice none 0 0,.slice none 0 0] (0,0) _ rfl (fy g5.out) Tryz.underlying62 rfl (by kernel_rfl)) rfl ?_
      exact⟨_,_,rr_,by first|exact Kd.R_nil _ _ _ _ _|exact Kd.N_nil _ _ _ _ _|exact Kd.V_nil _ _ _ _ _|exact Kd.Q_nil _ _ _ _ _|exact Kd.S_nil _ _ _ _ _,by first|exact Kd.R_nil _ _ _ _ _|exact Kd.N_nil _ _ _ _ _|exact Kd.V_nil _ _ _ _ _|exact Kd.Q_nil _ _ _ _ _|exact Kd.S_nil _ _ _ _ _,aD⟩
     rw[if_pos b6]at H;have B3:=decide_eq_true b6;have B4:decide (0<g3.length)=true:=decide_eq_true (by omega);clear b6;obtain⟨y7,L6,H⟩:=ob_ H;have H':=a0_ H;clear H;have S5:=j1.out;have S6:=g9.out;obtain⟨_,_,_,_,_,_,_,_,_,_,_,_,_,_,_,_⟩:=bT g0.out;obtain⟨f1,f2,L1⟩:=Kd.R_slice g1.out;subst L1;obtain⟨d9,z0,L2⟩:=Kd.R_slice g2.out;subst L2;go_wp2_with (first|((with_reducible refine gt_ 103 rfl ?_);refine gs_ 31 Tryz.func103 #[.agg #[.int .i64 a0_0,.bool a0_1,.bool g6,.int .i64 a0_3,.string a0_4,.int .i64 a0_5,.slice f1 g3.length f2,.slice d9 g4.length z0]] ?_;(with_reducible refine(ar.c k2 a0_0 a0_1 g6 a0_3 a0_4 a0_5 _ _ g3 _ _ g4 b3 _ ?side1 ?side2 ?side3 ?side4 f6.out).mono ?_);(case side1=>exact kD_ (Kd.R_reads' g1.out).2.2);(case side2=>exact(Kd.R_reads' g1.out).2.1);(case side3=>exact kD_ (Kd.R_reads' g2.out).2.2);(case side4=>exact(Kd.R_reads' g2.out).2.1);rintro e w58 ⟨rfl,hb⟩;refine⟨_,rfl,?_⟩;replace g1:=a0_ (Kd.R_below (kR_ g1.out) hb);replace g2:=a0_ (Kd.R_below (kR_ g2.out) hb);replace g0:=a0_ (bq g0 hb);replace g5:=a0_ (bq g5 hb);replace HB:=a0_ (aa aD hb);clear hb;obtain⟨_,_,_,_,_,_,_,_,_,_,_,_,_,_,_,_⟩:=bT g0.out)|((with_reducible refine gt_ 104 rfl ?_);refine gs_ 52 Tryz.func104 #[.slice f1 g3.length f2] ?_;(with_reducible refine(bB.c k2 _ _ g3 y7 _ ?side1 ?side2 L6.out).mono ?_);(case side1=>exact kD_ (Kd.R_reads' g1.out).2.2);(case side2=>exact(Kd.R_reads' g1.out).2.1);rintro e w60 ⟨g10,rfl,ho0,hb⟩;refine⟨_,rfl,?_⟩;have f8:=a0_ (Kd.R_lower (Kd.R_new' (Kd.R_new' ho0 (Kd.R_lt (kR_ g1.out))) (Kd.R_lt (kR_ g2.out))) (aj aD));replace g1:=a0_ (Kd.R_elder' (kR_ g1.out) (Kd.R_base ho0) hb);replace g2:=a0_ (Kd.R_elder' (kR_ g2.out) (Kd.R_base ho0) hb);replace g0:=a0_ (bq g0 hb);replace g5:=a0_ (bq g5 hb);replace HB:=a0_ (aa aD hb);clear hb;(try clear ho0);obtain⟨z1,z2,L3⟩:=Kd.R_slice f8.out;subst L3;obtain⟨_,_,_,_,_,_,_,_,_,_,_,_,_,_,_,_⟩:=bT g0.out));go_roundg k2
     case measure=>have:=HJ2.out;have:=HK2.out;omega
     case rel=>exact⟨(true),(y7),(g4),(j3),(j4),(j5),(j6),(j7),(j8),(.slice z1 y7.length z2),(.slice d9 g4.length z0),H',jm_ HJ2 HK2,⟨by(with_reducible repeat(first|apply Kd.R_alloc|apply Kd.R_drewN|apply Kd.R_drew));exact Kd.R_mono (Kd.R_far (p:=⟨g7,2,none⟩) (Kd.R_far (p:=⟨g7,6,none⟩) (Kd.R_types f8.out g0.out (by decide)) (fun _ hk=>hk.2) (.slice z1 y7.length z2)) (fun _ hk=>hk.2) (.bool true)) (fun _ hk=>hk.1.2)⟩,⟨by(with_reducible repeat(first|apply Kd.R_alloc|apply Kd.R_drewN|apply Kd.R_drew));exact Kd.R_mono (Kd.R_far (p:=⟨g7,2,none⟩) (Kd.R_far (p:=⟨g7,6,none⟩) (Kd.R_types g2.out g0.out (by decide)) (fun _ hk=>hk.2) (.slice z1 y7.length z2)) (fun _ hk=>hk.2) (.bool true)) (fun _ hk=>hk.1.2)⟩,⟨by(with_reducible repeat(first|refine aI ?_ _|refine az ?_|refine aE ?_ _));refine bE (cs:=#[.int .i64 a0_0,.bool a0_1,.bool g6,.int .i64 a0_3,.string a0_4,.int .i64 a0_5,.slice z1 y7.length z2,.slice d9 g4.length z0]) ?_ 2 _ rfl;(with_reducible repeat(first|refine aI ?_ _|refine az ?_|refine aE ?_ _));refine bE (cs:=#[.int .i64 a0_0,.bool a0_1,.bool g6,.int .i64 a0_3,.string a0_4,.int .i64 a0_5,.slice f1 g3.length f2,.slice d9 g4.length z0]) ?_ 6 _ rfl;(with_reducible repeat(first|refine aI ?_ _|refine az ?_|refine aE ?_ _));exact g0.out⟩,⟨iW g9.out g5.out⟩,⟨aD⟩⟩
end Go.Proofs.YtiegkjimpclmaaaGreatDoor.P
namespace Go.Proofs.YtiegkjimpclmaaaGreatDoor.Pure
open Go.Proofs.YtiegkjimpclmaaaGreatDoor.P
def Laid(b s r:ByteArray): Prop:=∃ y pl,r=b++y∧eF r b.size b.size ((bG s.data.toList).map mkB) pl r.size∧y.size≤s.size+(if s.size=0 then 1 else 2)
theorem pm(b s:ByteArray)(hb:b.size≤2000)(hg:cO s.data.toList=true): ∃ r,Ev (fun k=>bx.f k b s) r∧Ev (fun k=>bD.f k b s) r∧Laid b s r:=by
 have hsz:=ec hg;rw[← aU]at hsz;obtain⟨r,e1,e2⟩:=pY b hb s hsz hg;refine⟨r,e1,e2,?_⟩;obtain⟨places,_,p2,_,p4⟩:=qi b hb b.size 0 [] (by omega) (by omega) (by simp;omega) (fun x hx=>by cases hx);obtain⟨K,e2⟩:=e2;have h:=e2 K (Nat.le_refl _);unfold bD.f at h;obtain⟨pl,hp,h⟩:=Option.bind_eq_some_iff.mp h;have e:pl=places:=iX (Ev.of (fun k=>be.m b k) hp) (Ev.congr (fun k=>rfl) p2);rw[e]at h;obtain⟨y,pl',h1,h2,h3⟩:=oQ b hb places p4 K (⟨#[]⟩:ByteArray) s r h hg
 have e0:b++(⟨#[]⟩:ByteArray)=b:=by
  refine fK ?_
  simp
 rw[e0]at h1;rw[show(⟨#[]⟩:ByteArray).size=0 from rfl,Nat.add_zero]at h2;exact⟨y,pl',h1,h2,h3⟩
theorem oR{b s r:ByteArray}(h:Laid b s r): b.size≤r.size∧r.size≤b.size+s.size+2:=by
 obtain⟨y,pl,rfl,_,hy⟩:=h;rw[ByteArray.size_append]
 split at hy<;>omega
theorem rk(l:List ByteArray)(i:Nat)(h:i<l.length): bn ByteArray.empty l (i:Int)=l[i]:=by
 unfold bn;rw[Int.toNat_natCast,List.getD_eq_getElem?_getD,List.getElem?_eq_getElem h];rfl
theorem rT{n:Nat}(h:n<4611686018427387904): wrap64 ((n:Int)+1)=((n+1:Nat):Int):=by unfold wrap64;omega
theorem kz(l:List ByteArray)(hl:l.length≤25)(hg:∀ x∈l,cO x.data.toList=true): ∀ (m i:Nat) (b:ByteArray),i+m=l.length→b.size≤64*i →
 ∃ r,Ev (fun k=>cR.l0 k b l (l.length:Int) (i:Int)) r∧b.size≤r.size∧r.size≤2000 ∧
  (b.size≤600→Ev (fun k=>cV.l0 k b l (l.length:Int) (i:Int)) (if r.size≤600 then(r,true)else((⟨#[]⟩:ByteArray),false)))
 | 0,i,b,hi,hb=>by
  refine⟨b,Ev.step (f:=fun _=>some b) (fun k=>?_) (Ev.now _),Nat.le_refl _,by omega,fun h6=>Ev.step (f:=fun _=>some (b,true)) (fun k=>?_) ?_⟩
  ·rw[cR.l0,if_neg (by omega)]
  ·rw[cV.l0,if_neg (by omega)]
  ·rw[if_pos h6];exact Ev.now _
 | m+1,i,b,hi,hb=>by
  have hlt:i<l.length:=by omega
  have hgi:=hg l[i] (List.getElem_mem hlt);have hsz:=ec hgi;rw[← aU]at hsz;obtain⟨t,e1,e2,ht⟩:=pm b l[i] (by omega) hgi;obtain⟨s1,s2⟩:=oR ht;obtain⟨r,q1,q2,q3,q4⟩:=kz l hl hg m (i+1) t (by omega) (by omega);refine⟨r,Ev.step (f:=fun k=>(bx.f k b l[i]).bind fun g1=>cR.l0 k g1 l (l.length:Int) ((i+1:Nat):Int)) (fun k=>?_) (Ev.bind e1 q1),by omega,q3,fun h6=>?_⟩
  ·rw[cR.l0,if_pos (by omega),if_pos (by omega),if_pos (by omega),rk l i hlt,rT (by omega)]
  · refine Ev.step (f := fun k => (bD.f k b l[i]).bind fun g0 => if (g0.size : Int) > 600 then some ((⟨#[]⟩ : ByteArray), false) else cV.l0 k g0 l (l.length : Int) ((i + 1 : Nat) : Int)) (fun k => ?_) (Ev.bind e2 ?_)
    ·rw[cV.l0,if_pos (by omega),if_pos (by omega),if_pos (by omega),rk l i hlt,rT (by omega)]
    · by_cases c : t.size ≤ 600
      · simp only [if_neg (show ¬ (t.size : Int) > 600 by omega)]
        exact q4 c
      · simp only [if_pos (show (t.size : Int) > 600 by omega), if_neg (show ¬ r.size ≤ 600 by omega)]
        exact Ev.now _
theorem mT(l:List ByteArray)(hl:l.length≤25)(hg:∀ x∈l,cO x.data.toList=true): ∃ r,Ev (fun k=>cR.f k l) r∧r.size≤2000∧Ev (fun k=>cV.f k l) (if r.size≤600 then(r,true)else((⟨#[]⟩:ByteArray),false)):=by
 obtain⟨r,q1,_,q3,q4⟩:=kz l hl hg l.length 0 (⟨#[]⟩:ByteArray) (by omega) (Nat.zero_le _);exact⟨r,q1,q3,q4 (Nat.zero_le _)⟩
end Go.Proofs.YtiegkjimpclmaaaGreatDoor.Pure
namespace Go.Proofs.YtiegkjimpclmaaaGreatDoor.P
attribute [local go_sem] cG cD c_ cZ ci ch cE cH
mutual
def aC.j0: Nat→Int→Bool→Int→Bool→Bool→Int→ByteArray→Int→List (S45)→List (S45)→Option (Int×Bool×Bool×Int×ByteArray×Int×(List (S45))×(List (S45))×Bool)
 | 0,_,_,_,_,_,_,_,_,_,_=>none
 | k+1,x1,g8,g0,g1,g2,g3,g4,g5,g6,g7=>if g8=true then(some (0,false,false,0,(⟨#[]⟩:ByteArray),0,([]:List (S45)),([]:List (S45)),false))else(aC.l0 k x1 g0 g1 g2 g3 g4 g5 g6 g7)
def aC.l0: Nat→Int→Int→Bool→Bool→Int→ByteArray→Int→List (S45)→List (S45)→Option (Int×Bool×Bool×Int×ByteArray×Int×(List (S45))×(List (S45))×Bool)
 | 0,_,_,_,_,_,_,_,_,_=>none
 | k+1,x1,g0,g1,g2,g3,g4,g5,g6,g7=>(ai.f k g0 g1 g2 g3 g4 g5 g6 g7).bind fun g8=>(if g8.2=true then(aC.j2 k x1 (decide ((g8.1.size:Int)≤x1)) g0 g1 g2 g3 g4 g5 g6 g7)else(aC.j2 k x1 false g0 g1 g2 g3 g4 g5 g6 g7))
def aC.j2: Nat→Int→Bool→Int→Bool→Bool→Int→ByteArray→Int→List (S45)→List (S45)→Option (Int×Bool×Bool×Int×ByteArray×Int×(List (S45))×(List (S45))×Bool)
 | 0,_,_,_,_,_,_,_,_,_,_=>none
 | k+1,x1,j1,g3,g4,g8,g5,g6,g7,g1,g2=>if j1=true then((ce.f g3 g4 g8 g5 g6 g7 g1 g2).bind fun g0=>(some (g0.1,g0.2.1,g0.2.2.1,g0.2.2.2.1,g0.2.2.2.2.1,g0.2.2.2.2.2.1,g0.2.2.2.2.2.2.1,g0.2.2.2.2.2.2.2,true)))else(if(g2.length:Int)>0 then((aA.f k g2).bind fun g9=>(aC.l0 k x1 g3 g4 true g5 g6 g7 g1 g9))else(if(g1.length:Int)>0 then((aA.f k g1).bind fun j0=>(aC.l0 k x1 g3 g4 true g5 g6 g7 j0 g2))else(some (0,false,false,0,(⟨#[]⟩:ByteArray),0,([]:List (S45)),([]:List (S45)),false))))
end
def aC.f(k:Nat)(a0_0:Int)(a0_1:Bool)(a0_2:Bool)(a0_3:Int)(a0_4:ByteArray)(a0_5:Int)(l0_6:List (S45))(l0_7:List (S45))(a1:Int): Option (Int×Bool×Bool×Int×ByteArray×Int×(List (S45))×(List (S45))×Bool):=(cw.f k a0_0 a0_1 a0_2 a0_3 a0_4 a0_5 l0_6 l0_7).bind fun g0=>(if g0=true then(if a0_1=true then((cx.f a1 20 600).bind fun g1=>(aC.j0 k a1 (!g1) a0_0 a0_1 a0_2 a0_3 a0_4 a0_5 l0_6 l0_7))else(aC.j0 k a1 true a0_0 a0_1 a0_2 a0_3 a0_4 a0_5 l0_6 l0_7))else(aC.j0 k a1 true a0_0 a0_1 a0_2 a0_3 a0_4 a0_5 l0_6 l0_7))
theorem aC.c(k:Nat)(a0_0:Int)(a0_1:Bool)(a0_2:Bool)(a0_3:Int)(a0_4:ByteArray)(a0_5:Int)(A6:Option Addr)(c6:Nat)(l0_6:List (S45))(A7:Option Addr)(c7:Nat)(l0_7:List (S45))(a1:Int)(r1:Int)(r2:Bool)(r3:Bool)(r4:Int)(r5:ByteArray)(r6:Int)(r7:List (S45))(r8:List (S45))(r9:Bool)(w:World)(hr6:Kd.C k45 w A6 l0_6.length l0_6)(hc6:l0_6.length≤c6)(hr7:Kd.C k45 w A7 l0_7.length l0_7)(hc7:l0_7.length≤c7)(h:aC.f k a0_0 a0_1 a0_2 a0_3 a0_4 a0_5 l0_6 l0_7 a1=some (r1,r2,r3,r4,r5,r6,r7,r8,r9))(hv_:Vars w:=by exact vv_):
 Calls Tryz.prog 41 #[.agg #[.int .i64 a0_0,.bool a0_1,.bool a0_2,.int .i64 a0_3,.string a0_4,.int .i64 a0_5,.slice A6 l0_6.length c6,.slice A7 l0_7.length c7],.int .i64 a1] w fun e w'=> ∃ v6_ v7_:Value,e = .returned (.tuple #[.agg #[.int .i64 r1,.bool r2,.bool r3,.int .i64 r4,.string r5,.int .i64 r6,v6_,v7_],.bool r9])∧Kd.R k45 45 w' w.heap.size (fun k_=>some k_≠(v7_:Value).ownBlock) v6_ r7∧Kd.R k45 45 w' w.heap.size (fun k_=>some k_≠(v6_:Value).ownBlock) v7_ r8∧Below w.heap.size w w':=by
 have HV_:=a0_ hv_;have hu62:=Tryz.underlying62;have HR6:=a0_ hr6;have HC6:=a0_ hc6;have HR7:=a0_ hr7;have HC7:=a0_ hc7;have HB:=a0_ (Below.refl w.heap.size w);clear hv_ hr6 hc6 hr7 hc7;have H:=h;clear h;unfold aC.f at H;have HC3:=a0_ H;clear H;go_enter Tryz.func41,Tryz.ntmps41;go_upto_region 1 with(first|((with_reducible refine ax (N:=2) rfl ?_);(try(refine bP (by rfl) ?_;dsimp only));refine cm 2 #[.int .i64 a0_0,.bool a0_1,.bool a0_2,.int .i64 a0_3,.string a0_4,.int .i64 a0_5,.slice A6 l0_6.length c6,.slice A7 l0_7.length c7] 62 (fun g8 hg w6 hbox hb=>?_);have g0:=a0_ (hbox);have N6:=a0_ ((by rw[hg];exact(aj aD):w.heap.size≤g8));have N7:=a0_ ((by rw[hg];exact(aj ay):w.heap.size≤g8));replace HB:=a0_ (aa ay hb);clear hb hbox hg)|((with_reducible refine ax (N:=4) rfl ?_);(try(refine bP (by rfl) ?_;dsimp only));refine cm 4 #[.int .i64 0,.bool false,.bool false,.int .i64 0,.string (⟨#[]⟩:ByteArray),.int .i64 0,.slice none 0 0,.slice none 0 0] 62 (fun g6 hg w7 hbox hb=>?_);have g3:=a0_ (hbox);have N8:=a0_ ((by rw[hg];exact(aj aD):w.heap.size≤g6));have N9:=a0_ ((by rw[hg];exact(aj aD):w.heap.size≤g6));replace HB:=a0_ (aa aD hb);have g7:=a0_ ((by rw[hg];exact Nat.ne_of_lt (cB (g:=g8) (o:=.cells #[.int .i64 a0_0,.bool a0_1,.bool a0_2,.int .i64 a0_3,.string a0_4,.int .i64 a0_5,.slice A6 l0_6.length c6,.slice A7 l0_7.length c7] 62 (0,0)) (kB_ g0.out)):g8≠g6));have g5:=a0_ ((by rw[hg];exact Nat.ne_of_gt (cB (g:=g8) (o:=.cells #[.int .i64 a0_0,.bool a0_1,.bool a0_2,.int .i64 a0_3,.string a0_4,.int .i64 a0_5,.slice A6 l0_6.length c6,.slice A7 l0_7.length c7] 62 (0,0)) (kB_ g0.out)):g6≠g8));replace g0:=a0_ (bq g0 hb);clear hb hbox hg))
 (try simp only[Act.put,List.setIfInBounds_toArray,List.set_cons_zero,List.set_cons_succ])
 go_cut [20] (fun X0 wc=> ∃ (kq:Nat) (y0:Bool),X0 = .bool y0∧ab (aC.j0 kq a1 y0 a0_0 a0_1 a0_2 a0_3 a0_4 a0_5 l0_6 l0_7=some (r1,r2,r3,r4,r5,r6,r7,r8,r9))∧ab (kq≤k)∧ab (wc.heap[g8]? = some (.cells #[.int .i64 a0_0,.bool a0_1,.bool a0_2,.int .i64 a0_3,.string a0_4,.int .i64 a0_5,(.slice A6 l0_6.length c6),(.slice A7 l0_7.length c7)] 62 (0,0)))∧ab (wc.heap[g6]? = some (.cells #[.int .i64 0,.bool false,.bool false,.int .i64 0,.string (⟨#[]⟩:ByteArray),.int .i64 0,(.slice none 0 0),(.slice none 0 0)] 62 (0,0)))∧ab (Below w.heap.size w wc))
 case first=>
  have H:=HC3.out;clear HC3;obtain⟨D7,A8,H⟩:=ob_ H
  by_cases c9:D7=true
  case neg=>
   replace c9:=Bool.eq_false_iff.mpr c9;subst c9;rw[if_neg ff_]at H;have H':=a0_ H;clear H;have E0:=g7.out;have E1:=g5.out;obtain⟨d0,d3,d4,d5,d6,d7,d8,d9,z0,z1,z2,z3,z4,z5,z6,z7⟩:=bT g0.out;go_wp2_with (first|((with_reducible refine gt_ 105 rfl ?_);refine gs_ 9 Tryz.func105 #[.agg #[.int .i64 a0_0,.bool a0_1,.bool a0_2,.int .i64 a0_3,.string a0_4,.int .i64 a0_5,.slice A6 l0_6.length c6,.slice A7 l0_7.length c7]] ?_;(with_reducible refine(cw.c k a0_0 a0_1 a0_2 a0_3 a0_4 a0_5 _ _ l0_6 _ _ l0_7 false _ ?side1 ?side2 ?side3 ?side4 A8.out).mono ?_);(case side1=>exact kC_ HR6.out HB.out);(case side2=>exact HC6.out);(case side3=>exact kC_ HR7.out HB.out);(case side4=>exact HC7.out);rintro e W0 ⟨rfl,hb⟩;refine⟨_,rfl,?_⟩;replace g0:=a0_ (bq g0 hb);replace g3:=a0_ (bq g3 hb);replace HB:=a0_ (aa aD hb);clear hb));go_meet
   case rel=>exact⟨_,(true),rs_,H',⟨by first|omega|exact Nat.le_refl _⟩,⟨bz_⟩,⟨bz_⟩,⟨aD⟩⟩
  subst c9;rw[if_pos rfl]at H
  by_cases y9:a0_1=true
  case neg=>
   replace y9:=Bool.eq_false_iff.mpr y9;subst y9;rw[if_neg ff_]at H;have H':=a0_ H;clear H;have E2:=g7.out;have E3:=g5.out;obtain⟨z8,z9,f0,f1,f2,f3,f4,f5,f6,f7,f8,f9,T0,T1,T2,T3⟩:=bT g0.out;go_wp2_with (first|((with_reducible refine gt_ 105 rfl ?_);refine gs_ 9 Tryz.func105 #[.agg #[.int .i64 a0_0,.bool false,.bool a0_2,.int .i64 a0_3,.string a0_4,.int .i64 a0_5,.slice A6 l0_6.length c6,.slice A7 l0_7.length c7]] ?_;(with_reducible refine(cw.c k a0_0 false a0_2 a0_3 a0_4 a0_5 _ _ l0_6 _ _ l0_7 true _ ?side1 ?side2 ?side3 ?side4 A8.out).mono ?_);(case side1=>exact kC_ HR6.out HB.out);(case side2=>exact HC6.out);(case side3=>exact kC_ HR7.out HB.out);(case side4=>exact HC7.out);rintro e W1 ⟨rfl,hb⟩;refine⟨_,rfl,?_⟩;replace g0:=a0_ (bq g0 hb);replace g3:=a0_ (bq g3 hb);replace HB:=a0_ (aa aD hb);clear hb;obtain⟨T4,T5,T6,T7,T8,T9,V0,V1,V2,V3,V4,V5,V6,V7,V8,V9⟩:=bT g0.out));go_meet
   case rel=>exact⟨_,(true),rs_,H',⟨by first|omega|exact Nat.le_refl _⟩,⟨bz_⟩,⟨bz_⟩,⟨aD⟩⟩
  subst y9;rw[if_pos rfl]at H;obtain⟨G0,X1,H⟩:=ob_ H;have H':=a0_ H;clear H;have E4:=g7.out;have E5:=g5.out;obtain⟨G1,G2,G3,G4,G5,G6,G7,G8,G9,J0,J1,J2,J3,J4,J5,J6⟩:=bT g0.out;go_wp2_with (first|((with_reducible refine gt_ 105 rfl ?_);refine gs_ 9 Tryz.func105 #[.agg #[.int .i64 a0_0,.bool true,.bool a0_2,.int .i64 a0_3,.string a0_4,.int .i64 a0_5,.slice A6 l0_6.length c6,.slice A7 l0_7.length c7]] ?_;(with_reducible refine(cw.c k a0_0 true a0_2 a0_3 a0_4 a0_5 _ _ l0_6 _ _ l0_7 true _ ?side1 ?side2 ?side3 ?side4 A8.out).mono ?_);(case side1=>exact kC_ HR6.out HB.out);(case side2=>exact HC6.out);(case side3=>exact kC_ HR7.out HB.out);(case side4=>exact HC7.out);rintro e W2 ⟨rfl,hb⟩;refine⟨_,rfl,?_⟩;replace g0:=a0_ (bq g0 hb);replace g3:=a0_ (bq g3 hb);replace HB:=a0_ (aa aD hb);clear hb;obtain⟨J7,J8,J9,Q0,Q1,Q2,Q3,Q4,Q5,Q6,Q7,Q8,Q9,D0,D1,D2⟩:=bT g0.out)|(go_at_call 84;(with_reducible refine(cx.c a1 20 600 G0 _ X1.out).mono ?_);rintro e w' ⟨rfl,⟨nd,rfl⟩⟩));go_meet
  case rel=>exact⟨_,(!G0),rs_,H',⟨by first|omega|exact Nat.le_refl _⟩,⟨bz_⟩,⟨bz_⟩,⟨aD⟩⟩
 case rest=>
  clear HC3;obtain⟨kq,y0,rfl,HA,HJ2,g0,g3,HB⟩:=hcut
  cases kq with
  | zero=>exact absurd HA.out (by simp[aC.j0])
  | succ kj2=>
   have H:=HA.out;clear HA;simp only[aC.j0]at H
   by_cases b0:y0=true
   case pos=>
    subst b0;rw[if_pos rfl]at H;simp only[Option.some.injEq,Prod.mk.injEq]at H;obtain⟨rfl,rfl,rfl,rfl,rfl,rfl,rfl,rfl,rfl⟩:=H;have E6:=g5.out;have E7:=g7.out;obtain⟨D8,D9,Y0,Y1,Y2,Y3,Y4,Y5,Y6,Y7,Y8,Y9,Z0,Z1,Z2,Z3⟩:=bT g3.out;go_wp2
    refine bodyPost_ret (dQ rfl _ _ g6 62 #[.int .i64 0,.bool false,.bool false,.int .i64 0,.string (⟨#[]⟩:ByteArray),.int .i64 0,.slice none 0 0,.slice none 0 0] (0,0) _ rfl (fy g3.out) Tryz.underlying62 rfl (by kernel_rfl)) rfl ?_
    exact⟨_,_,rr_,by first|exact Kd.R_nil _ _ _ _ _|exact Kd.N_nil _ _ _ _ _|exact Kd.V_nil _ _ _ _ _|exact Kd.Q_nil _ _ _ _ _|exact Kd.S_nil _ _ _ _ _,by first|exact Kd.R_nil _ _ _ _ _|exact Kd.N_nil _ _ _ _ _|exact Kd.V_nil _ _ _ _ _|exact Kd.Q_nil _ _ _ _ _|exact Kd.S_nil _ _ _ _ _,aD⟩
   replace b0:=Bool.eq_false_iff.mpr b0;subst b0;rw[if_neg ff_]at H;have H':=a0_ H;clear H;go_wp2;go_loopg [] kj2 (fun kq w'=> ∃ (g4:Bool) (g1:List (S45)) (g2:List (S45)) (g9:Int) (j1:Bool) (j3:Bool) (j4:Int) (j5:ByteArray) (j6:Int),ab (aC.l0 kq a1 a0_0 a0_1 g4 a0_3 a0_4 a0_5 g1 g2=some (r1,r2,r3,r4,r5,r6,r7,r8,r9))∧ab (kq≤kj2)∧ab (Kd.C k45 w A6 g1.length g1)∧ab (g1.length≤c6)∧ab (Kd.C k45 w A7 g2.length g2)∧ab (g2.length≤c7)∧ab (w'.heap[g8]? = some (.cells #[.int .i64 a0_0,.bool a0_1,.bool g4,.int .i64 a0_3,.string a0_4,.int .i64 a0_5,.slice A6 g1.length c6,.slice A7 g2.length c7] 62 (0,0)))∧ab (w'.heap[g6]? = some (.cells #[.int .i64 g9,.bool j1,.bool j3,.int .i64 j4,.string j5,.int .i64 j6,(.slice none 0 0),(.slice none 0 0)] 62 (0,0)))∧ab (Below w.heap.size w w'))
   case atStart=>exact⟨(a0_2),(l0_6),(l0_7),(0),(false),(false),(0),((⟨#[]⟩:ByteArray)),(0),H',⟨Nat.le_refl _⟩,HR6,HC6,HR7,HC7,⟨bz_⟩,⟨bz_⟩,⟨aD⟩⟩
   case round=>
    clear H'
    try clear c1
    try clear c2
    try clear p2
    try clear c4
    try clear c9
    try clear y9
    try clear X2
    try clear X3
    try clear X4
    try clear b0
    try clear G1 G2 G3 G4 G5 G6 G7 G8
    try clear J7 J8 J9 Q0 Q1 Q2 Q3 Q4
    try clear z8 z9 f0 f1 f2 f3 f4 f5
    try clear T4 T5 T6 T7 T8 T9 V0 V1
    try clear d0 d3 d4 d5 d6 d7 d8 d9
    try clear G9 J0 J1 J2 J3 J4 J5 J6
    try clear Q5 Q6 Q7 Q8 Q9 D0 D1 D2
    try clear f6 f7 f8 f9 T0 T1 T2 T3
    try clear V2 V3 V4 V5 V6 V7 V8 V9
    try clear z0 z1 z2 z3 z4 z5 z6 z7
    try clear p2
    obtain⟨g4,g1,g2,g9,j1,j3,j4,j5,j6,HA,HK2,HR6,HC6,HR7,HC7,g0,g3,HB⟩:=hrel
    cases gk with
    | zero=>exact absurd HA.out (by simp[aC.l0])
    | succ k2=>
     have H:=HA.out;clear HA;simp only[aC.l0]at H;obtain⟨⟨D3,D4⟩,X5,H⟩:=ob_ H;have b5:=a0_ H;clear H;have E8:=g7.out;have E9:=g5.out;obtain⟨Z4,Z5,Z6,Z7,Z8,Z9,F0,F1,F2,F3,F4,F5,F6,F7,F8,F9⟩:=bT g0.out;go_upto_region 4 with(first|((with_reducible refine gt_ 106 rfl ?_);refine gs_ 24 Tryz.func106 #[.agg #[.int .i64 a0_0,.bool a0_1,.bool g4,.int .i64 a0_3,.string a0_4,.int .i64 a0_5,.slice A6 g1.length c6,.slice A7 g2.length c7]] ?_;(with_reducible refine(ai.c k2 a0_0 a0_1 g4 a0_3 a0_4 a0_5 _ _ g1 _ _ g2 D3 D4 _ ?side1 ?side2 ?side3 ?side4 X5.out).mono ?_);(case side1=>exact kC_ HR6.out HB.out);(case side2=>exact HC6.out);(case side3=>exact kC_ HR7.out HB.out);(case side4=>exact HC7.out);rintro e W3 ⟨rfl,hb⟩;refine⟨_,rfl,?_⟩;replace g0:=a0_ (bq g0 hb);replace g3:=a0_ (bq g3 hb);replace HB:=a0_ (aa aD hb);clear hb))
     (try simp only[Act.put,List.setIfInBounds_toArray,List.set_cons_zero,List.set_cons_succ])
     go_cut [33] (fun X6 wc=> ∃ (kq:Nat) (j9:Bool),X6 = .bool j9∧ab (aC.j2 kq a1 j9 a0_0 a0_1 g4 a0_3 a0_4 a0_5 g1 g2=some (r1,r2,r3,r4,r5,r6,r7,r8,r9))∧ab (kq≤k2)∧ab (wc.heap[g8]? = some (.cells #[.int .i64 a0_0,.bool a0_1,.bool g4,.int .i64 a0_3,.string a0_4,.int .i64 a0_5,(.slice A6 g1.length c6),(.slice A7 g2.length c7)] 62 (0,0)))∧ab (wc.heap[g6]? = some (.cells #[.int .i64 g9,.bool j1,.bool j3,.int .i64 j4,.string j5,.int .i64 j6,(.slice none 0 0),(.slice none 0 0)] 62 (0,0)))∧ab (Below w.heap.size w wc))
     case first=>
      have H:=b5.out;clear b5
      by_cases D5:D4=true
      case pos=>
       subst D5;rw[if_pos rfl]at H;have H':=a0_ H;clear H;go_wp2;go_meet
       case rel=>exact⟨_,(decide ((D3.size:Int)≤a1)),rs_,H',⟨by have:=HJ2.out;have:=HK2.out;first|omega|exact Nat.le_refl _⟩,⟨bz_⟩,⟨bz_⟩,⟨aD⟩⟩
      replace D5:=Bool.eq_false_iff.mpr D5;subst D5;rw[if_neg ff_]at H;have H':=a0_ H;clear H;go_wp2;go_meet
      case rel=>exact⟨_,(false),rs_,H',⟨by have:=HJ2.out;have:=HK2.out;first|omega|exact Nat.le_refl _⟩,⟨bz_⟩,⟨bz_⟩,⟨aD⟩⟩
     case rest=>
      clear b5
      try clear c1
      try clear c2
      try clear p2
      try clear c4
      try clear c9
      try clear y9
      try clear X2
      try clear X3
      try clear X4
      try clear b0
      try clear W4
      try clear G1 G2 G3 G4 G5 G6 G7 G8
      try clear J7 J8 J9 Q0 Q1 Q2 Q3 Q4
      try clear z8 z9 f0 f1 f2 f3 f4 f5
      try clear T4 T5 T6 T7 T8 T9 V0 V1
      try clear d0 d3 d4 d5 d6 d7 d8 d9
      try clear D8 D9 Y0 Y1 Y2 Y3 Y4 Y5
      try clear Z4 Z5 Z6 Z7 Z8 Z9 F0 F1
      try clear G9 J0 J1 J2 J3 J4 J5 J6
      try clear Q5 Q6 Q7 Q8 Q9 D0 D1 D2
      try clear f6 f7 f8 f9 T0 T1 T2 T3
      try clear V2 V3 V4 V5 V6 V7 V8 V9
      try clear z0 z1 z2 z3 z4 z5 z6 z7
      try clear Y6 Y7 Y8 Y9 Z0 Z1 Z2 Z3
      try clear F2 F3 F4 F5 F6 F7 F8 F9
      try clear p2
      obtain⟨kq,j9,rfl,HA,HJ26,g0,g3,HB⟩:=hcut
      cases kq with
      | zero=>exact absurd HA.out (by simp[aC.j2])
      | succ kj26=>
       have H:=HA.out;clear HA;simp only[aC.j2]at H
       by_cases D6:j9=true
       case pos=>
        subst D6;rw[if_pos rfl]at H;obtain⟨⟨y1,y2,y3,y4,y5,y6,y7,y8⟩,X7,H⟩:=ob_ H;simp only[Option.some.injEq,Prod.mk.injEq]at H;obtain⟨rfl,rfl,rfl,rfl,rfl,rfl,rfl,rfl,rfl⟩:=H;have O0:=g7.out;have O1:=g5.out;obtain⟨_,_,_,_,_,_,_,_,_,_,_,_,_,_,_,_⟩:=bT g0.out;go_wp2_with (first|((with_reducible refine gt_ 107 rfl ?_);refine gs_ 35 Tryz.func107 #[.agg #[.int .i64 a0_0,.bool a0_1,.bool g4,.int .i64 a0_3,.string a0_4,.int .i64 a0_5,.slice A6 g1.length c6,.slice A7 g2.length c7]] ?_;(with_reducible refine(ce.c a0_0 a0_1 g4 a0_3 a0_4 a0_5 _ _ g1 _ _ g2 y1 y2 y3 y4 y5 y6 y7 y8 _ ?side1 ?side2 ?side3 ?side4 X7.out).mono ?_);(case side1=>exact kC_ HR6.out HB.out);(case side2=>exact HC6.out);(case side3=>exact kC_ HR7.out HB.out);(case side4=>exact HC7.out);rintro e W5 ⟨O2,O3,rfl,ho0,ho1,hb⟩;refine⟨_,rfl,?_⟩;have b3:=a0_ (Kd.R_lower ho0 (aj aD));have b4:=a0_ (Kd.R_lower ho1 (aj aD));replace g0:=a0_ (bq g0 hb);replace g3:=a0_ (bq g3 hb);replace HB:=a0_ (aa aD hb);clear hb;(try clear ho0);(try clear ho1);obtain⟨_,_,_,_,_,_,_,_,_,_,_,_,_,_,_,_⟩:=bT g3.out;obtain⟨b6,b7,N4⟩:=Kd.R_slice b3.out;subst N4;obtain⟨b8,b9,N5⟩:=Kd.R_slice b4.out;subst N5))
        refine bodyPost_ret (dQ rfl _ _ g6 62 #[.int .i64 y1,.bool y2,.bool y3,.int .i64 y4,.string y5,.int .i64 y6,.slice b6 y7.length b7,.slice b8 y8.length b9] (0,0) _ rfl (fy g3.out) Tryz.underlying62 rfl (by kernel_rfl)) rfl ?_
        exact⟨_,_,rr_,kR_ (Kd.R_mono (Kd.R_far (p:=⟨g6,7,none⟩) (Kd.R_far (p:=⟨g6,6,none⟩) (Kd.R_far (p:=⟨g6,5,none⟩) (Kd.R_far (p:=⟨g6,4,none⟩) (fX g6 (Kd.R_types b3.out g3.out (by decide)) (fun _ hk=>hk.2) (.int .i64 y1) (.bool y2) (.bool y3) (.int .i64 y4)) (fun _ hk=>hk.2) (.string y5)) (fun _ hk=>hk.2) (.int .i64 y6)) (fun _ hk=>hk.2) (.slice b6 y7.length b7)) (fun _ hk=>hk.2) (.slice b8 y8.length b9)) (fun _ hk=>hk.1)),kR_ (Kd.R_mono (Kd.R_far (p:=⟨g6,7,none⟩) (Kd.R_far (p:=⟨g6,6,none⟩) (Kd.R_far (p:=⟨g6,5,none⟩) (Kd.R_far (p:=⟨g6,4,none⟩) (fX g6 (Kd.R_types b4.out g3.out (by decide)) (fun _ hk=>hk.2) (.int .i64 y1) (.bool y2) (.bool y3) (.int .i64 y4)) (fun _ hk=>hk.2) (.string y5)) (fun _ hk=>hk.2) (.int .i64 y6)) (fun _ hk=>hk.2) (.slice b6 y7.length b7)) (fun _ hk=>hk.2) (.slice b8 y8.length b9)) (fun _ hk=>hk.1)),aD⟩
       replace D6:=Bool.eq_false_iff.mpr D6;subst D6;rw[if_neg ff_]at H
       by_cases b1:(g2.length:Int)>0
       case pos=>
        rw[if_pos b1]at H;have N0:=decide_eq_true b1;have N1:decide (0<g2.length)=true:=decide_eq_true (by omega);clear b1;obtain⟨j7,X8,H⟩:=ob_ H;have H':=a0_ H;clear H;have O4:=g7.out;have O5:=g5.out;obtain⟨_,_,_,_,_,_,_,_,_,_,_,_,_,_,_,_⟩:=bT g0.out;go_wp2_with (first|(go_at_call 108;(refine(aA.view kj26 A7 c7 g2 j7 _ ?side1 HC7.out X8.out).mono ?_);(case side1=>exact kC_ HR7.out HB.out);rintro e W6 ⟨n_,rfl,hn_,hr_,hb⟩;obtain rfl:n_=j7.length:=(by rw[hr_,List.length_take];omega);have HT_:=a0_ (show Kd.C k45 w A7 j7.length j7 from hr_▸Kd.C_take HR7.out hn_);have HT2_:=a0_ (Nat.le_trans hn_ HC7.out);replace g0:=a0_ (bq g0 hb);replace g3:=a0_ (bq g3 hb);replace HB:=a0_ (aa aD hb);clear hb hn_ hr_;obtain⟨_,_,_,_,_,_,_,_,_,_,_,_,_,_,_,_⟩:=bT g0.out));go_roundg kj26
        case measure=>have:=HJ2.out;have:=HK2.out;have:=HJ26.out;omega
        case rel=>exact⟨(true),(g1),(j7),(g9),(j1),(j3),(j4),(j5),(j6),H',jn_ HJ2 HK2 HJ26,HR6,HC6,HT_,HT2_,⟨by(with_reducible repeat(first|refine aI ?_ _|refine az ?_|refine aE ?_ _));refine bE (cs:=#[.int .i64 a0_0,.bool a0_1,.bool g4,.int .i64 a0_3,.string a0_4,.int .i64 a0_5,.slice A6 g1.length c6,.slice A7 j7.length c7]) ?_ 2 _ rfl;(with_reducible repeat(first|refine aI ?_ _|refine az ?_|refine aE ?_ _));refine bE (cs:=#[.int .i64 a0_0,.bool a0_1,.bool g4,.int .i64 a0_3,.string a0_4,.int .i64 a0_5,.slice A6 g1.length c6,.slice A7 g2.length c7]) ?_ 7 _ rfl;(with_reducible repeat(first|refine aI ?_ _|refine az ?_|refine aE ?_ _));exact g0.out⟩,⟨iW g5.out g3.out⟩,⟨aD⟩⟩
       rw[if_neg b1]at H;have N0:=decide_eq_false b1;have N1:decide (0<g2.length)=false:=decide_eq_false (by omega);clear b1
       by_cases b2:(g1.length:Int)>0
       case pos=>
        rw[if_pos b2]at H;have N2:=decide_eq_true b2;have N3:decide (0<g1.length)=true:=decide_eq_true (by omega);clear b2;obtain⟨j8,X9,H⟩:=ob_ H;have H':=a0_ H;clear H;have O6:=g7.out;have O7:=g5.out;obtain⟨_,_,_,_,_,_,_,_,_,_,_,_,_,_,_,_⟩:=bT g0.out;go_wp2_with (first|(go_at_call 108;(refine(aA.view kj26 A6 c6 g1 j8 _ ?side1 HC6.out X9.out).mono ?_);(case side1=>exact kC_ HR6.out HB.out);rintro e W7 ⟨n_,rfl,hn_,hr_,hb⟩;obtain rfl:n_=j8.length:=(by rw[hr_,List.length_take];omega);have HT_:=a0_ (show Kd.C k45 w A6 j8.length j8 from hr_▸Kd.C_take HR6.out hn_);have HT2_:=a0_ (Nat.le_trans hn_ HC6.out);replace g0:=a0_ (bq g0 hb);replace g3:=a0_ (bq g3 hb);replace HB:=a0_ (aa aD hb);clear hb hn_ hr_;obtain⟨_,_,_,_,_,_,_,_,_,_,_,_,_,_,_,_⟩:=bT g0.out));go_roundg kj26
        case measure=>have:=HJ2.out;have:=HK2.out;have:=HJ26.out;omega
        case rel=>exact⟨(true),(j8),(g2),(g9),(j1),(j3),(j4),(j5),(j6),H',jn_ HJ2 HK2 HJ26,HT_,HT2_,HR7,HC7,⟨by(with_reducible repeat(first|refine aI ?_ _|refine az ?_|refine aE ?_ _));refine bE (cs:=#[.int .i64 a0_0,.bool a0_1,.bool g4,.int .i64 a0_3,.string a0_4,.int .i64 a0_5,.slice A6 j8.length c6,.slice A7 g2.length c7]) ?_ 2 _ rfl;(with_reducible repeat(first|refine aI ?_ _|refine az ?_|refine aE ?_ _));refine bE (cs:=#[.int .i64 a0_0,.bool a0_1,.bool g4,.int .i64 a0_3,.string a0_4,.int .i64 a0_5,.slice A6 g1.length c6,.slice A7 g2.length c7]) ?_ 6 _ rfl;(with_reducible repeat(first|refine aI ?_ _|refine az ?_|refine aE ?_ _));exact g0.out⟩,⟨iW g5.out g3.out⟩,⟨aD⟩⟩
       rw[if_neg b2]at H;have N2:=decide_eq_false b2;have N3:decide (0<g1.length)=false:=decide_eq_false (by omega);clear b2;simp only[Option.some.injEq,Prod.mk.injEq]at H;obtain⟨rfl,rfl,rfl,rfl,rfl,rfl,rfl,rfl,rfl⟩:=H;have O8:=g7.out;have O9:=g5.out;obtain⟨_,_,_,_,_,_,_,_,_,_,_,_,_,_,_,_⟩:=bT g0.out;obtain⟨_,_,_,_,_,_,_,_,_,_,_,_,_,_,_,_⟩:=bT g3.out;go_wp2
       refine bodyPost_ret (dQ rfl _ _ g6 62 #[.int .i64 0,.bool false,.bool false,.int .i64 0,.string (⟨#[]⟩:ByteArray),.int .i64 0,.slice none 0 0,.slice none 0 0] (0,0) _ rfl (fy g3.out) Tryz.underlying62 rfl (by kernel_rfl)) rfl ?_
       exact⟨_,_,rr_,by first|exact Kd.R_nil _ _ _ _ _|exact Kd.N_nil _ _ _ _ _|exact Kd.V_nil _ _ _ _ _|exact Kd.Q_nil _ _ _ _ _|exact Kd.S_nil _ _ _ _ _,by first|exact Kd.R_nil _ _ _ _ _|exact Kd.N_nil _ _ _ _ _|exact Kd.V_nil _ _ _ _ _|exact Kd.Q_nil _ _ _ _ _|exact Kd.S_nil _ _ _ _ _,aD⟩
def dh.f(k:Nat)(l0:List Int): Option (Int×Bool×Bool×Int×ByteArray×Int×(List (S45))×(List (S45))×Int):=(aX.f k l0 0 0).bind fun g0=>((bL.f l0 g0.2.2.2.2.2.2.2.2.1 g0.2.2.2.2.2.2.2.2.2 (([19,20,40,60,90,150,600,601]:List Int))).bind fun g1=>(some (g0.1,g0.2.1,g0.2.2.1,g0.2.2.2.1,g0.2.2.2.2.1,g0.2.2.2.2.2.1,g0.2.2.2.2.2.2.1,g0.2.2.2.2.2.2.2.1,g1.1)))
theorem dh.c(k:Nat)(A0:Option Addr)(c0:Nat)(l0:List Int)(r1:Int)(r2:Bool)(r3:Bool)(r4:Int)(r5:ByteArray)(r6:Int)(r7:List (S45))(r8:List (S45))(r9:Int)(w:World)(hr0:Kd.C (Kd.int .u8) w A0 l0.length l0)(hc0:l0.length≤c0)(h:dh.f k l0=some (r1,r2,r3,r4,r5,r6,r7,r8,r9)):
 Calls Tryz.prog 49 #[.slice A0 l0.length c0] w fun e w'=> ∃ v6_ v7_:Value,e = .returned (.tuple #[.agg #[.int .i64 r1,.bool r2,.bool r3,.int .i64 r4,.string r5,.int .i64 r6,v6_,v7_],.int .i64 r9])∧Kd.R k45 45 w' w.heap.size (fun k_=>some k_≠(v7_:Value).ownBlock) v6_ r7∧Kd.R k45 45 w' w.heap.size (fun k_=>some k_≠(v6_:Value).ownBlock) v7_ r8∧Below w.heap.size w w':=by
 have hu62:=Tryz.underlying62;have hu117:=Tryz.underlying117;have HR0:=a0_ hr0;have HC0:=a0_ hc0;clear hr0 hc0;have HB:=a0_ (Below.refl w.heap.size w);have H:=h;clear h;unfold dh.f at H;obtain⟨⟨j0,j1,j2,j3,j4,j5,j6,j7,g7,g8⟩,A2,H⟩:=ob_ H;obtain⟨y5,j8⟩:∃ y_:List Int,y_=(([19,20,40,60,90,150,600,601]:List Int)):=⟨_,rfl⟩;rw[← j8]at H;have y0:=a0_ j8;clear j8;obtain⟨⟨y7,y8,y9⟩,A3,H⟩:=ob_ H;simp only[Option.some.injEq,Prod.mk.injEq]at H;obtain⟨rfl,rfl,rfl,rfl,rfl,rfl,rfl,rfl,rfl⟩:=H;go_enter Tryz.func49,Tryz.ntmps49;go_wp2_with (first|((with_reducible refine ax (N:=2) rfl ?_);refine cm 2 #[.int .i64 0,.bool false,.bool false,.int .i64 0,.string (⟨#[]⟩:ByteArray),.int .i64 0,.slice none 0 0,.slice none 0 0] 62 (fun g0 hg w4 hbox hb=>?_);have g1:=a0_ (hbox);have y6:=a0_ (gw_ hg:w.heap.size≤g0);replace HB:=a0_ (aa ay hb);have b2:=y6;clear hb hbox hg)|((with_reducible refine ax (N:=7) rfl ?_);refine cm 7 #[.slice A0 l0.length c0,.int .i64 0,.int .u64 0] 117 (fun g2 hg w5 hbox hb=>?_);have g9:=a0_ ((⟨A0,c0,hbox,(by rw[hg];exact(aj aD)),HR0.out⟩:ak w w5 g2 l0 0 0));replace HB:=a0_ (aa aD hb);have g3:=a0_ ((by rw[hg];exact Nat.ne_of_lt (cB (g:=g0) (o:=.cells #[.int .i64 0,.bool false,.bool false,.int .i64 0,.string (⟨#[]⟩:ByteArray),.int .i64 0,.slice none 0 0,.slice none 0 0] 62 (0,0)) (kB_ g1.out)):g0≠g2));have j9:=a0_ ((by rw[hg];exact Nat.ne_of_gt (cB (g:=g0) (o:=.cells #[.int .i64 0,.bool false,.bool false,.int .i64 0,.string (⟨#[]⟩:ByteArray),.int .i64 0,.slice none 0 0,.slice none 0 0] 62 (0,0)) (kB_ g1.out)):g2≠g0));replace g1:=a0_ (bq g1 hb);clear hb hbox hg)|((with_reducible refine gt_ 113 rfl ?_);refine gs_ 9 Tryz.func113 #[.pointer (some ⟨g2,0,none⟩)] ?_;(with_reducible refine(aX.c k g2 l0 0 0 j0 j1 j2 j3 j4 j5 j6 j7 g7 g8 w _ ?side1 ?side2 A2.out).mono ?_);(case side1=>exact bg);(case side2=>exact ca);rintro e w6 ⟨b3,b4,rfl,ho0,ho1,hi,hb,hk⟩;refine⟨_,rfl,?_⟩;replace g1:=a0_ (kk_ g1 hk g3.out);have g4:=a0_ (Kd.R_lower ho0 (aj ca));have g5:=a0_ (Kd.R_lower ho1 (aj ca));replace HB:=a0_ (hb);replace g9:=a0_ (hi);clear hb hk hi;(try clear ho0);(try clear ho1))|((with_reducible refine ax (N:=11) rfl ?_);refine Kd.R_lit (Kd.int .i64) _ 3 ?hg (N:=11) ?hd (xs:=([19,20,40,60,90,150,600,601]:List Int)) (inner:=[.int .i64 19,.int .i64 20,.int .i64 40,.int .i64 60,.int .i64 90,.int .i64 150,.int .i64 600,.int .i64 601]) (ok:=fun _=>True) (okp:=fun _=>True) ?hr ?hp (fun _ hk=>hk) trivial (Below.refl _ _) (Nat.le_refl _) (by simp) ?_;(case hd=>rfl);(case hg=>rfl);(case hr=>first|(go_simp;done)|(go_simp;rfl));(case hp=>exact(br.one (show Kd.M (Kd.int .i64) _ _ _ 19 [.int .i64 19]from rfl) (br.one (show Kd.M (Kd.int .i64) _ _ _ 20 [.int .i64 20]from rfl) (br.one (show Kd.M (Kd.int .i64) _ _ _ 40 [.int .i64 40]from rfl) (br.one (show Kd.M (Kd.int .i64) _ _ _ 60 [.int .i64 60]from rfl) (br.one (show Kd.M (Kd.int .i64) _ _ _ 90 [.int .i64 90]from rfl) (br.one (show Kd.M (Kd.int .i64) _ _ _ 150 [.int .i64 150]from rfl) (br.one (show Kd.M (Kd.int .i64) _ _ _ 600 [.int .i64 600]from rfl) (br.one (show Kd.M (Kd.int .i64) _ _ _ 601 [.int .i64 601]from rfl) (br.none _ _))))))))));intro b5 w7 ho8 hb hg_ hnew_;clear hg_ hnew_;(first|rw[← y0.out]at ho8|(simp only[Int.reduceToNat]at ho8;rw[← y0.out]at ho8));replace g4:=a0_ (Kd.R_below (kR_ g4.out) hb);replace g5:=a0_ (Kd.R_below (kR_ g5.out) hb);have g6:=a0_ (Kd.R_lower ho8 (aj ca));replace g1:=a0_ (bq g1 hb);replace g9:=a0_ (ak.below bg hb);replace HB:=a0_ (aa ca hb);clear hb ho8;obtain⟨Ao9,co9,eo9⟩:=Kd.R_slice g6.out;subst eo9)|((with_reducible refine gt_ 114 rfl ?_);refine gs_ 12 Tryz.func114 #[.pointer (some ⟨g2,0,none⟩),.slice Ao9 y5.length co9] ?_;(with_reducible refine(bL.c g2 l0 g7 g8 _ _ y5 y7 y8 y9 w _ ?side1 ?side2 ?side3 ?side4 ?side5 A3.out).mono ?_);(case side1=>exact bg);(case side2=>exact ca);(case side3=>exact kD_ (Kd.R_reads' g6.out).2.2);(case side4=>exact(Kd.R_reads' g6.out).2.1);(case side5=>exact dW (ak.own_ne g9.out g6.out (by decide)));rintro e b8 ⟨rfl,hi,hb,hk⟩;refine⟨_,rfl,?_⟩;replace g1:=a0_ (kk_ g1 hk g3.out);replace g4:=a0_ (Kd.R_mono (Kd.R_keep (ak.apart (show ak w _ g2 l0 g7 g8 from bg) (kR_ g4.out) (by decide)) hk (fun _ h=>h.2)) (fun _ h=>h.1));replace g5:=a0_ (Kd.R_mono (Kd.R_keep (ak.apart (show ak w _ g2 l0 g7 g8 from bg) (kR_ g5.out) (by decide)) hk (fun _ h=>h.2)) (fun _ h=>h.1));replace g6:=a0_ (Kd.R_mono (Kd.R_keep (ak.apart (show ak w _ g2 l0 g7 g8 from bg) (kR_ g6.out) (by decide)) hk (fun _ h=>h.2)) (fun _ h=>h.1));replace HB:=a0_ (hb);replace g9:=a0_ (hi);clear hb hk hi;have b6:=g3.out;have b7:=j9.out;obtain⟨_,_,_,_,_,_,_,_,_,_,_,_,_,_,_,_⟩:=bT g1.out;obtain⟨y1,y2,b0⟩:=Kd.R_slice g4.out;subst b0;obtain⟨y3,y4,b1⟩:=Kd.R_slice g5.out;subst b1))
 refine bodyPost_ret (dQ rfl _ _ g0 62 #[.int .i64 j0,.bool j1,.bool j2,.int .i64 j3,.string j4,.int .i64 j5,.slice y1 j6.length y2,.slice y3 j7.length y4] (0,0) _ rfl (fy g1.out) Tryz.underlying62 rfl (by kernel_rfl)) rfl ?_
 exact⟨_,_,rr_,by(with_reducible repeat(first|apply Kd.R_alloc|apply Kd.R_drewN|apply Kd.R_drew));exact Kd.R_mono (Kd.R_far (p:=⟨g0,7,none⟩) (Kd.R_far (p:=⟨g0,6,none⟩) (Kd.R_far (p:=⟨g0,5,none⟩) (Kd.R_far (p:=⟨g0,4,none⟩) (fX g0 (Kd.R_types g4.out g1.out (by decide)) (fun _ hk=>hk.2) (.int .i64 j0) (.bool j1) (.bool j2) (.int .i64 j3)) (fun _ hk=>hk.2) (.string j4)) (fun _ hk=>hk.2) (.int .i64 j5)) (fun _ hk=>hk.2) (.slice y1 j6.length y2)) (fun _ hk=>hk.2) (.slice y3 j7.length y4)) (fun _ hk=>hk.1),by(with_reducible repeat(first|apply Kd.R_alloc|apply Kd.R_drewN|apply Kd.R_drew));exact Kd.R_mono (Kd.R_far (p:=⟨g0,7,none⟩) (Kd.R_far (p:=⟨g0,6,none⟩) (Kd.R_far (p:=⟨g0,5,none⟩) (Kd.R_far (p:=⟨g0,4,none⟩) (fX g0 (Kd.R_types g5.out g1.out (by decide)) (fun _ hk=>hk.2) (.int .i64 j0) (.bool j1) (.bool j2) (.int .i64 j3)) (fun _ hk=>hk.2) (.string j4)) (fun _ hk=>hk.2) (.int .i64 j5)) (fun _ hk=>hk.2) (.slice y1 j6.length y2)) (fun _ hk=>hk.2) (.slice y3 j7.length y4)) (fun _ hk=>hk.1),ca⟩
def dy.f(k:Nat)(a0_0:Int)(a0_1:Bool)(a0_2:Bool)(a0_3:Int)(a0_4:ByteArray)(a0_5:Int)(l0_6:List (S45))(l0_7:List (S45)): Option (ByteArray×Bool):=(cw.f k a0_0 a0_1 a0_2 a0_3 a0_4 a0_5 l0_6 l0_7).bind fun g1=>(if g1=true then((ai.f k a0_0 a0_1 a0_2 a0_3 a0_4 a0_5 l0_6 l0_7).bind fun g0=>(some (g0.1,g0.2)))else(some ((⟨#[]⟩:ByteArray),false)))
theorem dy.c(k:Nat)(a0_0:Int)(a0_1:Bool)(a0_2:Bool)(a0_3:Int)(a0_4:ByteArray)(a0_5:Int)(A0_6:Option Addr)(c0_6:Nat)(l0_6:List (S45))(A0_7:Option Addr)(c0_7:Nat)(l0_7:List (S45))(r1:ByteArray)(r2:Bool)(w:World)(hr0_6:Kd.C k45 w A0_6 l0_6.length l0_6)(hc0_6:l0_6.length≤c0_6)(hr0_7:Kd.C k45 w A0_7 l0_7.length l0_7)(hc0_7:l0_7.length≤c0_7)(h:dy.f k a0_0 a0_1 a0_2 a0_3 a0_4 a0_5 l0_6 l0_7=some (r1,r2))(hv_:Vars w:=by exact vv_):
 Calls Tryz.prog 51 #[.agg #[.int .i64 a0_0,.bool a0_1,.bool a0_2,.int .i64 a0_3,.string a0_4,.int .i64 a0_5,.slice A0_6 l0_6.length c0_6,.slice A0_7 l0_7.length c0_7]] w fun e w'=>e = .returned (.tuple #[.string r1,.bool r2])∧Below w.heap.size w w':=by
 have HV_:=a0_ hv_;clear hv_;have hu62:=Tryz.underlying62;have HR0_6:=a0_ hr0_6;have HC0_6:=a0_ hc0_6;clear hr0_6 hc0_6;have HR0_7:=a0_ hr0_7;have HC0_7:=a0_ hc0_7;clear hr0_7 hc0_7;have HB:=a0_ (Below.refl w.heap.size w);have H:=h;clear h;unfold dy.f at H;obtain⟨g4,A2,H⟩:=ob_ H
 by_cases c3:g4=true
 case neg=>
  replace c3:=Bool.eq_false_iff.mpr c3;subst c3;rw[if_neg ff_]at H;simp only[Option.some.injEq,Prod.mk.injEq]at H;obtain⟨rfl,rfl⟩:=H;go_enter Tryz.func51,Tryz.ntmps51;go_wp2_with (first|((with_reducible refine ax (N:=1) rfl ?_);refine cm 1 #[.int .i64 a0_0,.bool a0_1,.bool a0_2,.int .i64 a0_3,.string a0_4,.int .i64 a0_5,.slice A0_6 l0_6.length c0_6,.slice A0_7 l0_7.length c0_7] 62 (fun g1 hg g7 hbox hb=>?_);have g0:=a0_ (hbox);have g2:=a0_ (gw_ hg:w.heap.size≤g1);replace HB:=a0_ (aa ay hb);have g3:=g2;clear hb hbox hg;obtain⟨_,_,_,_,_,_,_,_,_,_,_,_,_,_,_,_⟩:=bT g0.out)|((with_reducible refine gt_ 105 rfl ?_);refine gs_ 5 Tryz.func105 #[.agg #[.int .i64 a0_0,.bool a0_1,.bool a0_2,.int .i64 a0_3,.string a0_4,.int .i64 a0_5,.slice A0_6 l0_6.length c0_6,.slice A0_7 l0_7.length c0_7]] ?_;(with_reducible refine(cw.c k a0_0 a0_1 a0_2 a0_3 a0_4 a0_5 _ _ l0_6 _ _ l0_7 false _ ?side1 ?side2 ?side3 ?side4 A2.out).mono ?_);(case side1=>exact kC_ HR0_6.out HB.out);(case side2=>exact HC0_6.out);(case side3=>exact kC_ HR0_7.out HB.out);(case side4=>exact HC0_7.out);rintro e g8 ⟨rfl,hb⟩;refine⟨_,rfl,?_⟩;replace g0:=a0_ (bq g0 hb);replace HB:=a0_ (aa aD hb);clear hb));go_ret2;exact⟨rr_,aD⟩
 subst c3;rw[if_pos rfl]at H;obtain⟨⟨g5,g6⟩,A4,H⟩:=ob_ H;simp only[Option.some.injEq,Prod.mk.injEq]at H;obtain⟨rfl,rfl⟩:=H;go_enter Tryz.func51,Tryz.ntmps51;go_wp2_with (first|((with_reducible refine ax (N:=1) rfl ?_);refine cm 1 #[.int .i64 a0_0,.bool a0_1,.bool a0_2,.int .i64 a0_3,.string a0_4,.int .i64 a0_5,.slice A0_6 l0_6.length c0_6,.slice A0_7 l0_7.length c0_7] 62 (fun g1 hg w5 hbox hb=>?_);have g0:=a0_ (hbox);have g2:=a0_ (gw_ hg:w.heap.size≤g1);replace HB:=a0_ (aa ay hb);have g3:=g2;clear hb hbox hg;obtain⟨_,_,_,_,_,_,_,_,_,_,_,_,_,_,_,_⟩:=bT g0.out)|((with_reducible refine gt_ 105 rfl ?_);refine gs_ 5 Tryz.func105 #[.agg #[.int .i64 a0_0,.bool a0_1,.bool a0_2,.int .i64 a0_3,.string a0_4,.int .i64 a0_5,.slice A0_6 l0_6.length c0_6,.slice A0_7 l0_7.length c0_7]] ?_;(with_reducible refine(cw.c k a0_0 a0_1 a0_2 a0_3 a0_4 a0_5 _ _ l0_6 _ _ l0_7 true _ ?side1 ?side2 ?side3 ?side4 A2.out).mono ?_);(case side1=>exact kC_ HR0_6.out HB.out);(case side2=>exact HC0_6.out);(case side3=>exact kC_ HR0_7.out HB.out);(case side4=>exact HC0_7.out);rintro e w7 ⟨rfl,hb⟩;refine⟨_,rfl,?_⟩;replace g0:=a0_ (bq g0 hb);replace HB:=a0_ (aa aD hb);clear hb;obtain⟨_,_,_,_,_,_,_,_,_,_,_,_,_,_,_,_⟩:=bT g0.out)|((with_reducible refine gt_ 106 rfl ?_);refine gs_ 8 Tryz.func106 #[.agg #[.int .i64 a0_0,.bool a0_1,.bool a0_2,.int .i64 a0_3,.string a0_4,.int .i64 a0_5,.slice A0_6 l0_6.length c0_6,.slice A0_7 l0_7.length c0_7]] ?_;(with_reducible refine(ai.c k a0_0 a0_1 a0_2 a0_3 a0_4 a0_5 _ _ l0_6 _ _ l0_7 g5 g6 _ ?side1 ?side2 ?side3 ?side4 A4.out).mono ?_);(case side1=>exact kC_ HR0_6.out HB.out);(case side2=>exact HC0_6.out);(case side3=>exact kC_ HR0_7.out HB.out);(case side4=>exact HC0_7.out);rintro e w9 ⟨rfl,hb⟩;refine⟨_,rfl,?_⟩;replace g0:=a0_ (bq g0 hb);replace HB:=a0_ (aa aD hb);clear hb));go_ret2;exact⟨rr_,aD⟩
end Go.Proofs.YtiegkjimpclmaaaGreatDoor.P
