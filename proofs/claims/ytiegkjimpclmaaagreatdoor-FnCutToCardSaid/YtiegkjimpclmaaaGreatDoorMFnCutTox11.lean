/- FnCutTo: part 12 of 17 of my texts for this claim, joined; the theorem stands in the last. Conditions: none beyond the statement's. -/
import Derived.Test.YtiegkjimpclmaaaGreatDoorMFnCutTox10
open Go.RowKit Go.Proofs.YtiegkjimpclmaaaGreatDoorW.PrintWords Go.Proofs.YtiegkjimpclmaaaGreatDoorW.PrintLast Go.Proofs.YtiegkjimpclmaaaGreatDoorW.PrintMore
set_option linter.unusedVariables false
set_option linter.unusedSimpArgs false
set_option maxHeartbeats 8000000
set_option maxRecDepth 100000
namespace Go.Proofs.YtiegkjimpclmaaaGreatDoor.P
attribute [local go_sem] cG cD c_ cZ ci ch cE cH
mutual
def ar.j0: Nat→Int→Int→Bool→Bool→Int→ByteArray→Int→List (S45)→List (S45)→Option (ByteArray)
 | 0,_,_,_,_,_,_,_,_,_=>none
 | k+1,x3,g1,g2,g0,g3,g4,g5,g6,g7=>if g0=true then(ar.j1 k (Go.bits .or .i64 x3 1) g1 g2 g0 g3 g4 g5 g6 g7)else(ar.j1 k x3 g1 g2 g0 g3 g4 g5 g6 g7)
def ar.j1: Nat→Int→Int→Bool→Bool→Int→ByteArray→Int→List (S45)→List (S45)→Option (ByteArray)
 | 0,_,_,_,_,_,_,_,_,_=>none
 | k+1,x3,g4,g5,g6,g7,g2,g3,g0,g1=>(some (([]:List (S45)):List (S45))).bind fun g8=>(if g8.length+g0.length<2932031007402 then((some (g8++g0:List (S45))).bind fun g9=>(if g9.length+g1.length<2932031007402 then((some (g9++g1:List (S45))).bind fun j0=>((am.f k g3 1).bind fun j2=>(ar.l0 k x3 (([g2]:List ByteArray)) j2 j0 (j0.length:Int) 0 g4 g5 g6 g7 g2 g3 g0 g1)))else(none)))else(none))
def ar.l0: Nat→Int→List ByteArray→ByteArray→List (S45)→Int→Int→Int→Bool→Bool→Int→ByteArray→Int→List (S45)→List (S45)→Option (ByteArray)
 | 0,_,_,_,_,_,_,_,_,_,_,_,_,_,_=>none
 | k+1,x3,x5,x6,g6,y1,g3,j0,j7,j8,j1,j9,y0,j2,j3=>if g3<y1 then(if 0≤g3 then(if g3<(g6.length:Int)then(if x5.length<8796093022208 then((ag.f k ((ae g6 g3).f1) ((ae g6 g3).f3)).bind fun g5=>((am.f k ((ae g6 g3).f1) 1).bind fun g7=>((am.f k ((ae g6 g3).f2) 3).bind fun g8=>(if g7.size+g8.size≤9223372036854775807 then((am.f k (g5.1.size:Int) 1).bind fun j4=>(if(g7++g8).size+j4.size≤9223372036854775807 then(if((g7++g8)++j4).size+g5.1.size≤9223372036854775807 then(if x6.size+(((g7++g8)++j4)++g5.1).size≤9223372036854775807 then(ar.l0 k x3 (x5 ++ [(ae g6 g3).f0]) (x6++(((g7++g8)++j4)++g5.1)) g6 y1 (wrap64 (g3+1)) j0 j7 j8 j1 j9 y0 j2 j3)else(none))else(none))else(none)))else(none)))))else(none))else(none))else(none))else((cR.f k x5).bind fun j5=>((am.f k j0 2).bind fun g0=>((am.f k x3 1).bind fun g1=>(if g0.size+g1.size≤9223372036854775807 then((am.f k j1 1).bind fun g2=>(if(g0++g1).size+g2.size≤9223372036854775807 then((am.f k (j2.length:Int) 1).bind fun g4=>(if((g0++g1)++g2).size+g4.size≤9223372036854775807 then((am.f k (j3.length:Int) 1).bind fun g9=>(if(((g0++g1)++g2)++g4).size+g9.size≤9223372036854775807 then((am.f k (j5.size:Int) 2).bind fun j6=>(if((((g0++g1)++g2)++g4)++g9).size+j6.size≤9223372036854775807 then(if(((((g0++g1)++g2)++g4)++g9)++j6).size+j5.size≤9223372036854775807 then(if((((((g0++g1)++g2)++g4)++g9)++j6)++j5).size+x6.size≤9223372036854775807 then(some (((((((g0++g1)++g2)++g4)++g9)++j6)++j5)++x6))else(none))else(none))else(none)))else(none)))else(none)))else(none)))else(none)))))
end
def ar.f(k:Nat)(a0_0:Int)(a0_1:Bool)(a0_2:Bool)(a0_3:Int)(a0_4:ByteArray)(a0_5:Int)(l0_6:List (S45))(l0_7:List (S45)): Option (ByteArray):=if a0_1=true then(ar.j0 k (Go.bits .or .i64 0 128) a0_0 a0_1 a0_2 a0_3 a0_4 a0_5 l0_6 l0_7)else(ar.j0 k 0 a0_0 a0_1 a0_2 a0_3 a0_4 a0_5 l0_6 l0_7)
def ar.T6: Bool×List (List Nat×List Nat):=(true,[([],[]),([],[]),([1],[1]),([0,2],[0,2]),([],[]),([4],[4]),([3,5,3],[3,5]),([6,6,0,1,2,3,4,5,6],[6])])
def ar.B6: List Nat:=[0,0,2,7,0,16,63,127]
theorem ar.tab6: eA .any (fc Tryz.f103 6)=ar.T6:=by kernel_rfl
theorem ar.bits6: du ar.T6.2 ar.B6=true:=by kernel_rfl
def ar.T14: Bool×List (List Nat×List Nat):=(true,[([],[]),([],[]),([1],[1]),([2],[2]),([],[]),([4],[4]),([5,3],[5]),([3,6],[3,6]),([],[]),([8],[8]),([9,6],[9]),([7,10],[7,10]),([],[]),([11,12],[11,12]),([0,13],[0,13]),([14,10,0,1,2,3,4,5,6,7,8,9,10,11,12,13,14],[0,14])])
def ar.B14: List Nat:=[0,0,2,6,0,16,62,126,0,256,894,2046,0,8190,16383,32767]
theorem ar.tab14: eA .any (fc Tryz.f103 14)=ar.T14:=by kernel_rfl
theorem ar.bits14: du ar.T14.2 ar.B14=true:=by kernel_rfl
def ar.T17: Bool×List (List Nat×List Nat):=(true,[([],[]),([0],[0]),([1],[1]),([],[]),([3,2],[3]),([2,4],[2,4]),([],[]),([6],[6]),([7,4],[7]),([5,8],[5,8]),([],[]),([10],[10]),([11],[11]),([12,8],[12]),([9,13],[9,13]),([],[]),([15],[15]),([16],[16]),([17,13],[17]),([14,18],[14,18]),([],[]),([20],[20]),([21,18],[21]),([19,22],[19,22]),([],[]),([23,24],[23,24]),([],[]),([25,26],[25,26]),([27,22,0,1,2,3,4,5,6,7,8,9,10,11,12,13,14,15,16,17,18,19,20,21,22,23,24,25,26,27],[27])])
def ar.B17: List Nat:=[0,1,3,0,15,31,0,64,223,511,0,1024,3072,7647,16383,0,32768,98304,245215,524287,0,1048576,3653087,8388607,0,33554431,0,134217727,268435455]
theorem ar.tab17: eA .any (fc Tryz.f103 17)=ar.T17:=by kernel_rfl
theorem ar.bits17: du ar.T17.2 ar.B17=true:=by kernel_rfl
theorem ar.c(k:Nat)(a0_0:Int)(a0_1:Bool)(a0_2:Bool)(a0_3:Int)(a0_4:ByteArray)(a0_5:Int)(A0_6:Option Addr)(c0_6:Nat)(l0_6:List (S45))(A0_7:Option Addr)(c0_7:Nat)(l0_7:List (S45))(r:ByteArray)(w:World)(hr0_6:Kd.C k45 w A0_6 l0_6.length l0_6)(hc0_6:l0_6.length≤c0_6)(hr0_7:Kd.C k45 w A0_7 l0_7.length l0_7)(hc0_7:l0_7.length≤c0_7)(h:ar.f k a0_0 a0_1 a0_2 a0_3 a0_4 a0_5 l0_6 l0_7=some r):
 Calls Tryz.prog 103 #[.agg #[.int .i64 a0_0,.bool a0_1,.bool a0_2,.int .i64 a0_3,.string a0_4,.int .i64 a0_5,.slice A0_6 l0_6.length c0_6,.slice A0_7 l0_7.length c0_7]] w fun e w'=>e = .returned (.string r)∧Below w.heap.size w w':=by
 have hu62:=Tryz.underlying62;have hu45:=Tryz.underlying45;have HR0_6:=a0_ hr0_6;have HC0_6:=a0_ hc0_6;clear hr0_6 hc0_6;have HR0_7:=a0_ hr0_7;have HC0_7:=a0_ hc0_7;clear hr0_7 hc0_7;have HB:=a0_ (Below.refl w.heap.size w);have H:=h;clear h;unfold ar.f at H;have HC2:=a0_ H;clear H;go_enter Tryz.func103,Tryz.ntmps103;go_upto_if 13 with(first|((with_reducible refine ax (N:=1) rfl ?_);refine cm 1 #[.int .i64 a0_0,.bool a0_1,.bool a0_2,.int .i64 a0_3,.string a0_4,.int .i64 a0_5,.slice A0_6 l0_6.length c0_6,.slice A0_7 l0_7.length c0_7] 62 (fun g3 hg w3 hbox hb=>?_);have g0:=a0_ (hbox);have z7:=a0_ (gw_ hg:w.heap.size≤g3);replace HB:=a0_ (aa ay hb);have F2:=z7;clear hb hbox hg;obtain⟨z4_0,z4_1,z4_2,z4_3,z4_4,z4_5,z4_6,z4_7,q4_0,q4_1,q4_2,q4_3,q4_4,q4_5,q4_6,q4_7⟩:=bT g0.out))
 (try simp only[Act.put,List.setIfInBounds_toArray,List.set_cons_zero,List.set_cons_succ])
 go_cut [3] (fun v3 wc=> ∃ (kq:Nat) (x3_1:Int),v3 = .int .i64 x3_1∧ab (ar.j0 kq x3_1 a0_0 a0_1 a0_2 a0_3 a0_4 a0_5 l0_6 l0_7=some r)∧ab (kq≤k)∧ab (wc.heap[g3]? = some (.cells #[.int .i64 a0_0,.bool a0_1,.bool a0_2,.int .i64 a0_3,.string a0_4,.int .i64 a0_5,(.slice A0_6 l0_6.length c0_6),(.slice A0_7 l0_7.length c0_7)] 62 (0,0)))∧ab (Below w.heap.size w wc))
 case first=>
  have H:=HC2.out;clear HC2
  by_cases c5:a0_1=true
  case pos=>
   subst c5;rw[if_pos rfl]at H;have H':=a0_ H;clear H;go_wp2;go_meet
   case rel=>exact⟨_,(Go.bits .or .i64 0 128),rs_,H',⟨by first|omega|exact Nat.le_refl _⟩,⟨bz_⟩,⟨aD⟩⟩
  replace c5:=Bool.eq_false_iff.mpr c5;subst c5;rw[if_neg ff_]at H;have H':=a0_ H;clear H;go_wp2;go_meet
  case rel=>exact⟨_,(0),rs_,H',⟨by first|omega|exact Nat.le_refl _⟩,⟨bz_⟩,⟨aD⟩⟩
 case rest=>
  clear HC2
  try clear z4_0 z4_1 z4_2 z4_3 z4_4 z4_5 z4_6 z4_7 q4_0 q4_1 q4_2 q4_3 q4_4 q4_5 q4_6 q4_7
  obtain⟨kq,x3_1,rfl,HA,HJ1,g0,HB⟩:=hcut
  cases kq with
  | zero=>exact absurd HA.out (by simp[ar.j0])
  | succ kj1=>
   have H:=HA.out;clear HA;simp only[ar.j0]at H;have HC6:=a0_ H;clear H;obtain⟨z7_0,z7_1,z7_2,z7_3,z7_4,z7_5,z7_6,z7_7,q7_0,q7_1,q7_2,q7_3,q7_4,q7_5,q7_6,q7_7⟩:=bT g0.out;go_upto_if 17 with(fail);go_cut [3] (fun v3 wc=> ∃ (kq:Nat) (x3_5:Int),v3 = .int .i64 x3_5∧ab (ar.j1 kq x3_5 a0_0 a0_1 a0_2 a0_3 a0_4 a0_5 l0_6 l0_7=some r)∧ab (kq≤kj1)∧ab (wc.heap[g3]? = some (.cells #[.int .i64 a0_0,.bool a0_1,.bool a0_2,.int .i64 a0_3,.string a0_4,.int .i64 a0_5,(.slice A0_6 l0_6.length c0_6),(.slice A0_7 l0_7.length c0_7)] 62 (0,0)))∧ab (Below w.heap.size w wc))
   case first=>
    have H:=HC6.out;clear HC6
    by_cases c8:a0_2=true
    case pos=>
     subst c8;rw[if_pos rfl]at H;have H':=a0_ H;clear H;go_wp2;go_meet
     case rel=>exact⟨_,(Go.bits .or .i64 x3_1 1),rs_,H',jl_ HJ1,⟨bz_⟩,⟨aD⟩⟩
    replace c8:=Bool.eq_false_iff.mpr c8;subst c8;rw[if_neg ff_]at H;have H':=a0_ H;clear H;go_wp2;go_meet
    case rel=>exact⟨_,(x3_1),rs_,H',jl_ HJ1,⟨bz_⟩,⟨aD⟩⟩
   case rest=>
    clear HC6
    try clear c1
    try clear p2
    try clear c5
    try clear z4_0 z4_1 z4_2 z4_3 z4_4 z4_5 z4_6 z4_7
    try clear z7_0 z7_1 z7_2 z7_3 z7_4 z7_5 z7_6 z7_7
    try clear q4_0 q4_1 q4_2 q4_3 q4_4 q4_5 q4_6 q4_7
    try clear q7_0 q7_1 q7_2 q7_3 q7_4 q7_5 q7_6 q7_7
    try clear p2
    obtain⟨kq,x3_5,rfl,HA,HJ5,g0,HB⟩:=hcut
    cases kq with
    | zero=>exact absurd HA.out (by simp[ar.j1])
    | succ kj5=>
     have H:=HA.out;clear HA;simp only[ar.j1]at H;obtain⟨d9,y6⟩:∃ y_:List (S45),y_=(([]:List (S45))):=⟨_,rfl⟩;replace H:=by_ y6 H;have z1:=a0_ y6;clear y6
     by_cases c9:d9.length+l0_6.length<2932031007402
     case neg=>
      rw[if_neg c9]at H;exact absurd H (by simp)
     rw[if_pos c9]at H;have LMc9:=a0_ c9;clear c9;obtain⟨z0,y7⟩:∃ y_:List (S45),y_=(d9++l0_6):=⟨_,rfl⟩;replace H:=by_ y7 H;have z8:=a0_ y7;clear y7
     by_cases b4:z0.length+l0_7.length<2932031007402
     case neg=>
      rw[if_neg b4]at H;exact absurd H (by simp)
     rw[if_pos b4]at H;have z9:=a0_ b4;clear b4;obtain⟨g4,y8⟩:∃ y_:List (S45),y_=(z0++l0_7):=⟨_,rfl⟩;replace H:=by_ y8 H;have f4:=a0_ y8;clear y8;obtain⟨Q9,y9⟩:∃ y_:List ByteArray,y_=(([a0_4]:List ByteArray)):=⟨_,rfl⟩;rw[← y9]at H;have z2:=a0_ y9;clear y9;obtain⟨z6,Y7,H⟩:=ob_ H;have H':=a0_ H;clear H
     try go_wp2
     replace g0:=a0_ (az g0.out);replace HB:=a0_ (bp HB.out)
     refine gl (n:=8) (S:=fun w'=>w'.cell? ⟨g3,0,none⟩=some (.int .i64 a0_0)∧w'.cell? ⟨g3,1,none⟩=some (.bool a0_1)∧w'.cell? ⟨g3,2,none⟩=some (.bool a0_2)∧w'.cell? ⟨g3,3,none⟩=some (.int .i64 a0_3)∧w'.cell? ⟨g3,4,none⟩=some (.string a0_4)∧w'.cell? ⟨g3,5,none⟩=some (.int .i64 a0_5)∧w'.cell? ⟨g3,6,none⟩=some (.slice A0_6 l0_6.length c0_6)∧w'.cell? ⟨g3,7,none⟩=some (.slice A0_7 l0_7.length c0_7)) (ds:=[]) #[false,false,false,false,false,false,false,false] (by kernel_rfl) rfl rfl ⟨(af g0.out 0).trans rfl,(af g0.out 1).trans rfl,(af g0.out 2).trans rfl,(af g0.out 3).trans rfl,(af g0.out 4).trans rfl,(af g0.out 5).trans rfl,(af g0.out 6).trans rfl,(af g0.out 7).trans rfl⟩ (fun hHeld=>?_);refine ck ar.tab6 ar.bits6 (fun HT_ HW_=>?_)
     generalize wc.drew=E6 at g0 HB hHeld ⊢
     refine p_ 1 21 ?_
     refine p_ 4 24 ?_
     refine t_ 2 22 ?_
     refine t_ 5 25 ?_
     refine dg 0 (some 20) (fun K hK=>?_)
     refine Kd.R_lit_step k45 _ 45 ?hg (N:=20) ?hd (xs:=([]:List (S45))) (inner:=[]) (ok:=fun _=>True) (okp:=fun _=>True) ?hr ?hp (fun _ hk=>hk) trivial (Below.refl _ _) (Nat.le_refl _) (by simp) ?_;(case hd=>rfl);(case hg=>rfl);(case hr=>first|(go_simp;done)|(go_simp;rfl));(case hp=>exact(br.none _ _))
     intro D0 E7 y3 hb hg_ hnew_;clear hg_ hnew_
     (first|rw[← z1.out]at y3|(simp only[Int.reduceToNat]at y3;rw[← z1.out]at y3))
     have b0:=a0_ (Kd.R_lower y3 (aj aD));replace g0:=a0_ (bq g0 hb);replace HB:=a0_ (aa aD hb);clear hb y3;refine hK.out _ _ ⟨(af g0.out 0).trans rfl,(af g0.out 1).trans rfl,(af g0.out 2).trans rfl,(af g0.out 3).trans rfl,(af g0.out 4).trans rfl,(af g0.out 5).trans rfl,(af g0.out 6).trans rfl,(af g0.out 7).trans rfl⟩ (fun hHeld=>?_);clear hK K
     refine cU ?_
     refine dg 3 (some 23) (fun K hK=>?_)
     refine Kd.R_append_rows_step k45 (w0:=w) w.heap.size (by rfl) (.tmp 20) (.tmp 22) 27 45 (.agg #[(.string ⟨#[]⟩),(.int .i64 0),(.int .i64 0),(.string ⟨#[]⟩)]) 48 rfl Tryz.underlying27 dz rfl (by decide) (by omega) D0 d9 l0_6 _ _ _ (fun _=>True) (fun _=>False) rfl rfl ?aO ?aR (fun _ _ h=>h) (fun _ h=>h.elim) ?aF ?aB ?aS ?aL ?_
     (case aR=>repeat(first|exact(Kd.C_below HR0_6.out HB.out)|(with_reducible refine Kd.C_alloc ?_ _)|(with_reducible refine Kd.C_drewN ?_ _)|(with_reducible refine Kd.C_drew ?_)))
     (case aB=>exact aD)
     (case aF=>exact(fun _ _=>trivial))
     (case aO=>exact(kR_ b0.out))
     (case aS=>exact(aj aD))
     (case aL=>have:=LMc9.out;omega)
     intro D1 E8 ho hb hg hat;rw[← z8.out]at ho;have n0_:=a0_ (cp (g:=g3) (o:=.cells #[.int .i64 a0_0,.bool a0_1,.bool a0_2,.int .i64 a0_3,.string a0_4,.int .i64 a0_5,.slice A0_6 l0_6.length c0_6,.slice A0_7 l0_7.length c0_7] 62 (0,0)) (kB_ g0.out) hg (Kd.R_ne b0.out g0.out (by decide)));have n1_:=a0_ (hb);have n2_:=a0_ (ho);clear g0;clear HB;clear b0;have g0:=n0_;have HB:=n1_;have b1:=n2_;clear n0_ n1_ n2_;clear ho hb hg hat;refine hK.out _ _ ⟨(af g0.out 0).trans rfl,(af g0.out 1).trans rfl,(af g0.out 2).trans rfl,(af g0.out 3).trans rfl,(af g0.out 4).trans rfl,(af g0.out 5).trans rfl,(af g0.out 6).trans rfl,(af g0.out 7).trans rfl⟩ (fun hHeld=>?_);clear hK K
     refine cU ?_
     refine dg 6 (some 26) (fun K hK=>?_)
     refine Kd.R_append_rows_step k45 (w0:=w) w.heap.size (by rfl) (.tmp 23) (.tmp 25) 27 45 (.agg #[(.string ⟨#[]⟩),(.int .i64 0),(.int .i64 0),(.string ⟨#[]⟩)]) 48 rfl Tryz.underlying27 dz rfl (by decide) (by omega) D1 z0 l0_7 _ _ _ (fun _=>True) (fun _=>False) rfl rfl ?aO ?aR (fun _ _ h=>h) (fun _ h=>h.elim) ?aF ?aB ?aS ?aL ?_
     (case aR=>repeat(first|exact(Kd.C_below HR0_7.out HB.out)|(with_reducible refine Kd.C_alloc ?_ _)|(with_reducible refine Kd.C_drewN ?_ _)|(with_reducible refine Kd.C_drew ?_)))
     (case aB=>exact aD)
     (case aF=>exact(fun _ _=>trivial))
     (case aO=>exact(kR_ b1.out))
     (case aS=>exact(aj aD))
     (case aL=>have:=z9.out;omega)
     intro E3 E9 ho hb hg hat;rw[← f4.out]at ho;have n0_:=a0_ (cp (g:=g3) (o:=.cells #[.int .i64 a0_0,.bool a0_1,.bool a0_2,.int .i64 a0_3,.string a0_4,.int .i64 a0_5,.slice A0_6 l0_6.length c0_6,.slice A0_7 l0_7.length c0_7] 62 (0,0)) (kB_ g0.out) hg (Kd.R_ne b1.out g0.out (by decide)));have n1_:=a0_ (hb);have n2_:=a0_ (ho);clear g0;clear HB;clear b1;have g0:=n0_;have HB:=n1_;have j9:=n2_;clear n0_ n1_ n2_;clear ho hb hg hat;refine hK.out _ _ ⟨(af g0.out 0).trans rfl,(af g0.out 1).trans rfl,(af g0.out 2).trans rfl,(af g0.out 3).trans rfl,(af g0.out 4).trans rfl,(af g0.out 5).trans rfl,(af g0.out 6).trans rfl,(af g0.out 7).trans rfl⟩ (fun hHeld=>?_);clear hK K
     refine cU ?_
     refine p_ 7 4 ?_
     refine dZ (db HT_.out (by kernel_rfl)) ?_
     obtain⟨f5,f6,f7,f8,f9,T0,T1,T2,T3,T4,T5,T6,T7,T8,T9,V0⟩:=bT g0.out
     try go_wp2_with (first|((with_reducible refine ax (N:=29) rfl ?_);refine ls_ 29 9 ([a0_4]:List ByteArray) ?_;intro E4 O0 y4 hb hg_ hnew_;clear hg_ hnew_;(first|rw[← z2.out]at y4|(simp only[Int.reduceToNat]at y4;rw[← z2.out]at y4));replace j9:=a0_ (Kd.R_below (kR_ j9.out) hb);have b2:=a0_ (Kd.R_lower y4 (aj aD));replace g0:=a0_ (bq g0 hb);replace HB:=a0_ (aa aD hb);clear hb y4;obtain⟨V1,V2,V3,V4,V5,V6,V7,V8,V9,G0,G1,G2,G3,G4,G5,G6⟩:=bT g0.out)|((with_reducible refine gt_ 118 rfl ?_);refine gs_ 32 Tryz.func118 #[.int .i64 a0_5,.int .i64 1] ?_;(with_reducible refine(am.c kj5 a0_5 1 z6 _ Y7.out).mono ?_);rintro e O1 ⟨rfl,hb⟩;refine⟨_,rfl,?_⟩;replace j9:=a0_ (Kd.R_below (kR_ j9.out) hb);replace b2:=a0_ (Kd.R_below (kR_ b2.out) hb);replace g0:=a0_ (bq g0 hb);replace HB:=a0_ (aa aD hb);clear hb;obtain⟨D2,D3,D4⟩:=Kd.R_slice j9.out;subst D4))
     go_loopg [5,6,35] kj5 (fun kq v5 v6 Y8 w'=> ∃ (x5_3:List ByteArray) (x6_3:ByteArray) (g2:Int),v6 = .string x6_3∧Y8 = .int .i64 g2∧ab (ar.l0 kq x3_5 x5_3 x6_3 g4 (g4.length:Int) g2 a0_0 a0_1 a0_2 a0_3 a0_4 a0_5 l0_6 l0_7=some r)∧ab (kq≤kj5)∧ab (Kd.R Kd.string 9 w' w.heap.size (fun _=>True) v5 x5_3)∧ab (Kd.R k45 45 w' w.heap.size (fun _=>True) (.slice D2 g4.length D3) g4)∧ab (w'.heap[g3]? = some (.cells #[.int .i64 a0_0,.bool a0_1,.bool a0_2,.int .i64 a0_3,.string a0_4,.int .i64 a0_5,(.slice A0_6 l0_6.length c0_6),(.slice A0_7 l0_7.length c0_7)] 62 (0,0)))∧ab (Below w.heap.size w w'))
     case atStart=>exact⟨(Q9),(z6),(0),rs_,rs_,H',⟨Nat.le_refl _⟩,⟨kR_ b2.out⟩,⟨kR_ j9.out⟩,⟨bz_⟩,⟨aD⟩⟩
     case round=>
      clear H'
      try clear c1
      try clear p2
      try clear c5
      try clear c8
      try clear c9
      try clear b4
      try clear f5 f6 f7 f8 f9 T0 T1 T2
      try clear V1 V2 V3 V4 V5 V6 V7 V8
      try clear z4_0 z4_1 z4_2 z4_3 z4_4 z4_5 z4_6 z4_7
      try clear z7_0 z7_1 z7_2 z7_3 z7_4 z7_5 z7_6 z7_7
      try clear T3 T4 T5 T6 T7 T8 T9 V0
      try clear V9 G0 G1 G2 G3 G4 G5 G6
      try clear q4_0 q4_1 q4_2 q4_3 q4_4 q4_5 q4_6 q4_7
      try clear q7_0 q7_1 q7_2 q7_3 q7_4 q7_5 q7_6 q7_7
      try clear p2
      obtain⟨x5_3,x6_3,g2,rfl,rfl,HA,HK3,HO_5,g1,g0,HB⟩:=hrel
      cases gk with
      | zero=>exact absurd HA.out (by simp[ar.l0])
      | succ k3=>
       have H:=HA.out;clear HA;simp only[ar.l0]at H
       by_cases y5:g2<(g4.length:Int)
       case pos=>
        rw[if_pos y5]at H;have G7:=decide_eq_true y5;clear y5
        by_cases z3:0≤g2
        case neg=>
         rw[if_neg z3]at H;exact absurd H (by simp)
        rw[if_pos z3]at H;have F3:=decide_eq_true z3;clear z3
        by_cases z4:g2<(g4.length:Int)
        case neg=>
         rw[if_neg z4]at H;exact absurd H (by simp)
        rw[if_pos z4]at H;have F4:=decide_eq_true z4;clear z4
        by_cases z5:x5_3.length<8796093022208
        case neg=>
         rw[if_neg z5]at H;exact absurd H (by simp)
        rw[if_pos z5]at H;have G8:=a0_ z5;clear z5;obtain⟨D5,b3⟩:∃ y_:List ByteArray,y_=(x5_3 ++ [(ae g4 g2).f0]):=⟨_,rfl⟩;rw[← b3]at H;have G9:=a0_ b3;clear b3;obtain⟨⟨j7,D6⟩,Y9,H⟩:=ob_ H;obtain⟨j4,Z0,H⟩:=ob_ H;obtain⟨j5,Z1,H⟩:=ob_ H
        by_cases b5:j4.size+j5.size≤9223372036854775807
        case neg=>
         rw[if_neg b5]at H;exact absurd H (by simp)
        rw[if_pos b5]at H;have F5:=eq_true b5;have F6:=decide_eq_true b5
        try have F7:(9223372036854775807<j4.size+j5.size)=False:=eq_false (Nat.not_lt.2 b5)
        obtain⟨j8,Z2,H⟩:=ob_ H
        by_cases b6:(j4++j5).size+j8.size≤9223372036854775807
        case neg=>
         rw[if_neg b6]at H;exact absurd H (by simp)
        rw[if_pos b6]at H;have F8:=eq_true b6;have F9:=decide_eq_true b6
        try have J0:(9223372036854775807<(j4++j5).size+j8.size)=False:=eq_false (Nat.not_lt.2 b6)
        (try(have J1:=J0;simp only[ByteArray.size_append,Nat.reduceAdd]at J1))
        by_cases b7:((j4++j5)++j8).size+j7.size≤9223372036854775807
        case neg=>
         rw[if_neg b7]at H;exact absurd H (by simp)
        rw[if_pos b7]at H;have N0:=eq_true b7;have N1:=decide_eq_true b7
        try have J2:(9223372036854775807<((j4++j5)++j8).size+j7.size)=False:=eq_false (Nat.not_lt.2 b7)
        (try(have J3:=J2;simp only[ByteArray.size_append,Nat.reduceAdd]at J3))
        by_cases b8:x6_3.size+(((j4++j5)++j8)++j7).size≤9223372036854775807
        case neg=>
         rw[if_neg b8]at H;exact absurd H (by simp)
        rw[if_pos b8]at H;have N2:=eq_true b8;have N3:=decide_eq_true b8
        try have J4:(9223372036854775807<x6_3.size+(((j4++j5)++j8)++j7).size)=False:=eq_false (Nat.not_lt.2 b8)
        (try(have J5:=J4;simp only[ByteArray.size_append,Nat.reduceAdd]at J5))
        have H':=a0_ H;clear H;have D7:=t0_ (g2);have D8:=tl_ (g2) (g4.length);obtain⟨N4,D9,Y3,Y4,Y5,Y6⟩:=dN (Kd.R_reads' g1.out).2.2 g2 (of_eq_true D7) (of_eq_true D8);cases D9
        try go_wp2_with (first|((with_reducible refine ax (N:=8) rfl ?_);refine cm 8 #[.string (⟨#[]⟩:ByteArray),.int .i64 0,.int .i64 0,.string (⟨#[]⟩:ByteArray)] 45 (fun j3 hg O2 hbox hb=>?_);replace HO_5:=a0_ (Kd.R_below (kR_ HO_5.out) hb);replace g1:=a0_ (Kd.R_below (Kd.R_elderB (kR_ g1.out) j3 (Nat.le_of_eq hg.symm)) hb);have g5:=a0_ (hbox);have J6:=a0_ (gw_ hg (aj aD):w.heap.size≤j3);replace HB:=a0_ (aa aD hb);have y2:=a0_ ((by rw[hg];exact Nat.ne_of_lt (cB (g:=g3) (o:=.cells #[.int .i64 a0_0,.bool a0_1,.bool a0_2,.int .i64 a0_3,.string a0_4,.int .i64 a0_5,.slice A0_6 l0_6.length c0_6,.slice A0_7 l0_7.length c0_7] 62 (0,0)) (kB_ g0.out)):g3≠j3));have b9:=a0_ ((by rw[hg];exact Nat.ne_of_gt (cB (g:=g3) (o:=.cells #[.int .i64 a0_0,.bool a0_1,.bool a0_2,.int .i64 a0_3,.string a0_4,.int .i64 a0_5,.slice A0_6 l0_6.length c0_6,.slice A0_7 l0_7.length c0_7] 62 (0,0)) (kB_ g0.out)):j3≠g3));replace g0:=a0_ (bq g0 hb);have N5:=J6;clear hb hbox hg;have N6:=b9.out;have N7:=y2.out;obtain⟨_,_,_,_,_,_,_,_⟩:=cY g5.out)|((with_reducible refine bz (b:=.append) (xs:=#[.tmp 39,.tmp 42]) rfl ?_);at_builtin;refine Kd.R_append Kd.string (w0:=w) w.heap.size rfl (.tmp 39) (.tmp 42) 78 9 (.string ⟨#[]⟩) 16 rfl Tryz.underlying78 jd rfl (by decide) (by omega) u5 x5_3 ((ae g4 g2).f0) [.string ((ae g4 g2).f0)] (fun _=>True) (fun _=>False) rfl (by first|(go_simp;done)|(go_simp;rfl)) ?aP (fun _ hk=>hk.elim) ?aF ?aO ?aB ?aS ?aL ?_;(case aP=>exact rfl);(case aB=>exact aD);(case aF=>exact(fun _ _=>trivial));(case aO=>exact(kR_ (Kd.R_mono (fX j3 (Kd.R_types HO_5.out g5.out (by decide)) (fun _ hk=>hk.2) (.string ((ae g4 g2).f0)) (.int .i64 ((ae g4 g2).f1)) (.int .i64 ((ae g4 g2).f2)) (.string ((ae g4 g2).f3))) (fun _ hk=>trivial))));(case aS=>exact(aj aD));(case aL=>have:=G8.out;omega);intro E5 O3 ho hb hg hat;rw[← G9.out]at ho;replace g1:=a0_ (Kd.R_over' (kR_ (Kd.R_mono (fX j3 (Kd.R_mono g1.out (fun k_ hk=>(⟨hk,hk.2⟩:_∧k_≠j3))) (fun _ hk=>hk.2) (.string ((ae g4 g2).f0)) (.int .i64 ((ae g4 g2).f1)) (.int .i64 ((ae g4 g2).f2)) (.string ((ae g4 g2).f3))) (fun _ h_=>h_.1))) (Kd.R_typed (kR_ (lF HO_5.out g5.out))) (by decide) hg);replace g0:=a0_ (cp (g:=g3) (o:=.cells #[.int .i64 a0_0,.bool a0_1,.bool a0_2,.int .i64 a0_3,.string a0_4,.int .i64 a0_5,.slice A0_6 l0_6.length c0_6,.slice A0_7 l0_7.length c0_7] 62 (0,0)) (ir y2.out g0.out) hg (Kd.R_ne HO_5.out g0.out (by decide)));replace g5:=a0_ (cp (g:=j3) (o:=.cells #[.string ((ae g4 g2).f0),.int .i64 ((ae g4 g2).f1),.int .i64 ((ae g4 g2).f2),.string ((ae g4 g2).f3)] 45 (0,0)) (fl g5.out) hg (Kd.R_ne HO_5.out g5.out (by decide)));replace HB:=a0_ (hb);have g6:=a0_ (ho);clear HO_5;clear ho hb hg hat;obtain⟨_,_,_,_,_,_,_,_⟩:=cY g5.out)|((with_reducible refine gt_ 55 rfl ?_);refine gs_ 49 Tryz.func55 #[.int .i64 ((ae g4 g2).f1),.string ((ae g4 g2).f3)] ?_;(with_reducible refine(ag.c k3 ((ae g4 g2).f1) ((ae g4 g2).f3) j7 D6 _ Y9.out).mono ?_);rintro e Z3 ⟨rfl,hb⟩;refine⟨_,rfl,?_⟩;replace g1:=a0_ (Kd.R_below (kR_ g1.out) hb);replace g6:=a0_ (Kd.R_below (kR_ g6.out) hb);replace g0:=a0_ (bq g0 hb);replace g5:=a0_ (bq g5 hb);replace HB:=a0_ (aa aD hb);clear hb))
        replace g1:=a0_ (Kd.R_drew g1.out);replace g6:=a0_ (Kd.R_drew g6.out);replace g0:=a0_ (az g0.out);replace g5:=a0_ (az g5.out);replace HB:=a0_ (bp HB.out)
        refine fN 16 [] (eb_ g5.out) (fun hHeld=>?_);refine ck ar.tab14 ar.bits14 (fun HT_ HW_=>?_)
        generalize Z3.drew=O4 at g1 g6 g0 g5 HB hHeld ⊢
        refine p_ 0 52 ?_
        refine p_ 1 53 ?_
        refine p_ 4 56 ?_
        refine p_ 8 60 ?_
        refine p_ 9 61 ?_
        refine p_ 12 64 ?_
        refine t_ 2 54 ?_
        refine t_ 5 57 ?_
        refine dg 3 (some 55) (fun K hK=>?_)
        refine dm Tryz.func118 (by kernel_rfl) rfl #[.int .i64 ((ae g4 g2).f1),.int .i64 1] (by rfl) rfl rfl cS ?_
        with_reducible refine(am.c k3 ((ae g4 g2).f1) 1 j4 _ Z0.out).mono ?_
        rintro e O5 ⟨rfl,hb⟩;refine⟨_,rfl,?_⟩;replace g1:=a0_ (Kd.R_below (kR_ g1.out) hb);replace g6:=a0_ (Kd.R_below (kR_ g6.out) hb);replace g0:=a0_ (bq g0 hb);replace g5:=a0_ (bq g5 hb);replace HB:=a0_ (aa aD hb)
        (try clear hb)
        (try clear hb2)
        (try clear hk)
        (try clear hi)
        refine hK.out _ _ (eb_ g5.out).out (fun hHeld=>?_);clear hK K
        refine cU ?_
        refine dg 6 (some 58) (fun K hK=>?_)
        refine dm Tryz.func118 (by kernel_rfl) rfl #[.int .i64 ((ae g4 g2).f2),.int .i64 3] (by rfl) rfl rfl cS ?_
        with_reducible refine(am.c k3 ((ae g4 g2).f2) 3 j5 _ Z1.out).mono ?_
        rintro e O6 ⟨rfl,hb⟩;refine⟨_,rfl,?_⟩;replace g1:=a0_ (Kd.R_below (kR_ g1.out) hb);replace g6:=a0_ (Kd.R_below (kR_ g6.out) hb);replace g0:=a0_ (bq g0 hb);replace g5:=a0_ (bq g5 hb);replace HB:=a0_ (aa aD hb)
        (try clear hb)
        (try clear hb2)
        (try clear hk)
        (try clear hi)
        refine hK.out _ _ (eb_ g5.out).out (fun hHeld=>?_);clear hK K
        refine cU ?_
        refine p_ 7 59 ?_
        refine dg 10 (some 62) (fun K hK=>?_)
        refine dm Tryz.func118 (by kernel_rfl) rfl #[.int .i64 (j7.size:Int),.int .i64 1] (by rfl) rfl rfl cS ?_
        with_reducible refine(am.c k3 (j7.size:Int) 1 j8 _ Z2.out).mono ?_
        rintro e O7 ⟨rfl,hb⟩;refine⟨_,rfl,?_⟩;replace g1:=a0_ (Kd.R_below (kR_ g1.out) hb);replace g6:=a0_ (Kd.R_below (kR_ g6.out) hb);replace g0:=a0_ (bq g0 hb);replace g5:=a0_ (bq g5 hb);replace HB:=a0_ (aa aD hb)
        (try clear hb)
        (try clear hb2)
        (try clear hk)
        (try clear hi)
        refine hK.out _ _ (eb_ g5.out).out (fun hHeld=>?_);clear hK K
        refine cU ?_
        refine p_ 11 63 ?_
        refine p_ 13 65 ?_
        refine p_ 14 66 ?_
        refine p_ 15 6 ?_
        refine dZ (db HT_.out (by kernel_rfl)) ?_
        try go_wp2
        go_roundg k3
        case measure=>have:=HJ1.out;have:=HJ5.out;have:=HK3.out;omega
        case rel=>exact⟨(D5),(x6_3++(((j4++j5)++j8)++j7)),(wrap64 (g2+1)),rs_,rs_,H',jn_ HJ1 HJ5 HK3,⟨kR_ g6.out⟩,⟨kR_ (Kd.R_mono g1.out (fun _ hk=>trivial))⟩,⟨bz_⟩,⟨aD⟩⟩
       rw[if_neg y5]at H;have G7:=decide_eq_false y5;clear y5;obtain⟨y0,Z4,H⟩:=ob_ H;obtain⟨g7,Z5,H⟩:=ob_ H;obtain⟨g8,Z6,H⟩:=ob_ H
       by_cases d0:g7.size+g8.size≤9223372036854775807
       case neg=>
        rw[if_neg d0]at H;exact absurd H (by simp)
       rw[if_pos d0]at H;have N8:=eq_true d0;have N9:=decide_eq_true d0
       try have X0:(9223372036854775807<g7.size+g8.size)=False:=eq_false (Nat.not_lt.2 d0)
       obtain⟨g9,Z7,H⟩:=ob_ H
       by_cases d3:(g7++g8).size+g9.size≤9223372036854775807
       case neg=>
        rw[if_neg d3]at H;exact absurd H (by simp)
       rw[if_pos d3]at H;have X1:=eq_true d3;have X2:=decide_eq_true d3
       try have J7:(9223372036854775807<(g7++g8).size+g9.size)=False:=eq_false (Nat.not_lt.2 d3)
       (try(have J8:=J7;simp only[ByteArray.size_append,Nat.reduceAdd]at J8))
       obtain⟨j2,Z8,H⟩:=ob_ H
       by_cases d4:((g7++g8)++g9).size+j2.size≤9223372036854775807
       case neg=>
        rw[if_neg d4]at H;exact absurd H (by simp)
       rw[if_pos d4]at H;have X3:=eq_true d4;have X4:=decide_eq_true d4
       try have J9:(9223372036854775807<((g7++g8)++g9).size+j2.size)=False:=eq_false (Nat.not_lt.2 d4)
       (try(have Q0:=J9;simp only[ByteArray.size_append,Nat.reduceAdd]at Q0))
       obtain⟨j6,Z9,H⟩:=ob_ H
       by_cases d5:(((g7++g8)++g9)++j2).size+j6.size≤9223372036854775807
       case neg=>
        rw[if_neg d5]at H;exact absurd H (by simp)
       rw[if_pos d5]at H;have X5:=eq_true d5;have X6:=decide_eq_true d5
       try have Q1:(9223372036854775807<(((g7++g8)++g9)++j2).size+j6.size)=False:=eq_false (Nat.not_lt.2 d5)
       (try(have Q2:=Q1;simp only[ByteArray.size_append,Nat.reduceAdd]at Q2))
       obtain⟨y1,F0,H⟩:=ob_ H
       by_cases d6:((((g7++g8)++g9)++j2)++j6).size+y1.size≤9223372036854775807
       case neg=>
        rw[if_neg d6]at H;exact absurd H (by simp)
       rw[if_pos d6]at H;have X7:=eq_true d6;have X8:=decide_eq_true d6
       try have Q3:(9223372036854775807<((((g7++g8)++g9)++j2)++j6).size+y1.size)=False:=eq_false (Nat.not_lt.2 d6)
       (try(have Q4:=Q3;simp only[ByteArray.size_append,Nat.reduceAdd]at Q4))
       by_cases d7:(((((g7++g8)++g9)++j2)++j6)++y1).size+y0.size≤9223372036854775807
       case neg=>
        rw[if_neg d7]at H;exact absurd H (by simp)
       rw[if_pos d7]at H;have X9:=eq_true d7;have E0:=decide_eq_true d7
       try have Q5:(9223372036854775807<(((((g7++g8)++g9)++j2)++j6)++y1).size+y0.size)=False:=eq_false (Nat.not_lt.2 d7)
       (try(have Q6:=Q5;simp only[ByteArray.size_append,Nat.reduceAdd]at Q6))
       by_cases d8:((((((g7++g8)++g9)++j2)++j6)++y1)++y0).size+x6_3.size≤9223372036854775807
       case neg=>
        rw[if_neg d8]at H;exact absurd H (by simp)
       rw[if_pos d8]at H;have E1:=eq_true d8;have E2:=decide_eq_true d8
       try have Q7:(9223372036854775807<((((((g7++g8)++g9)++j2)++j6)++y1)++y0).size+x6_3.size)=False:=eq_false (Nat.not_lt.2 d8)
       (try(have Q8:=Q7;simp only[ByteArray.size_append,Nat.reduceAdd]at Q8))
       obtain rfl:=Option.some.inj H;obtain⟨Y0,Y1,Y2⟩:=Kd.R_slice HO_5.out;subst Y2
       try go_wp2_with (first|((with_reducible refine gt_ 159 rfl ?_);refine gs_ 69 Tryz.func159 #[.slice Y0 x5_3.length Y1] ?_;(with_reducible refine(cR.c k3 _ _ x5_3 y0 _ ?side1 ?side2 Z4.out).mono ?_);(case side1=>exact kD_ (Kd.R_reads' HO_5.out).2.2);(case side2=>exact(Kd.R_reads' HO_5.out).2.1);rintro e F1 ⟨rfl,hb⟩;refine⟨_,rfl,?_⟩;replace HO_5:=a0_ (Kd.R_below (kR_ HO_5.out) hb);replace g1:=a0_ (Kd.R_below (kR_ g1.out) hb);replace g0:=a0_ (bq g0 hb);replace HB:=a0_ (aa aD hb);clear hb))
       replace HO_5:=a0_ (Kd.R_drew HO_5.out);replace g1:=a0_ (Kd.R_drew g1.out);replace g0:=a0_ (az g0.out);replace HB:=a0_ (bp HB.out)
       refine gl (n:=29) (S:=fun w'=>w'.cell? ⟨g3,0,none⟩=some (.int .i64 a0_0)∧w'.cell? ⟨g3,1,none⟩=some (.bool a0_1)∧w'.cell? ⟨g3,2,none⟩=some (.bool a0_2)∧w'.cell? ⟨g3,3,none⟩=some (.int .i64 a0_3)∧w'.cell? ⟨g3,4,none⟩=some (.string a0_4)∧w'.cell? ⟨g3,5,none⟩=some (.int .i64 a0_5)∧w'.cell? ⟨g3,6,none⟩=some (.slice A0_6 l0_6.length c0_6)∧w'.cell? ⟨g3,7,none⟩=some (.slice A0_7 l0_7.length c0_7)) (ds:=[]) #[false,false,false,false,false,false,false,false,false,false,false,false,false,false,false,false,false,false,false,false,false,false,false,false,false,false,false,false,false] (by kernel_rfl) rfl rfl ⟨(af g0.out 0).trans rfl,(af g0.out 1).trans rfl,(af g0.out 2).trans rfl,(af g0.out 3).trans rfl,(af g0.out 4).trans rfl,(af g0.out 5).trans rfl,(af g0.out 6).trans rfl,(af g0.out 7).trans rfl⟩ (fun hHeld=>?_);refine ck ar.tab17 ar.bits17 (fun HT_ HW_=>?_)
       generalize F1.drew=O8 at HO_5 g1 g0 HB hHeld ⊢
       refine p_ 0 70 ?_
       refine p_ 3 73 ?_
       refine p_ 6 76 ?_
       refine p_ 10 80 ?_
       refine p_ 15 85 ?_
       refine p_ 20 90 ?_
       refine p_ 21 91 ?_
       refine p_ 24 94 ?_
       refine p_ 26 96 ?_
       refine t_ 1 71 ?_
       refine t_ 7 77 ?_
       refine t_ 11 81 ?_
       refine p_ 12 82 ?_
       refine t_ 16 86 ?_
       refine p_ 17 87 ?_
       refine dg 2 (some 72) (fun K hK=>?_)
       refine dm Tryz.func118 (by kernel_rfl) rfl #[.int .i64 a0_0,.int .i64 2] (by rfl) rfl rfl cS ?_
       with_reducible refine(am.c k3 a0_0 2 g7 _ Z5.out).mono ?_
       rintro e O9 ⟨rfl,hb⟩;refine⟨_,rfl,?_⟩;replace HO_5:=a0_ (Kd.R_below (kR_ HO_5.out) hb);replace g1:=a0_ (Kd.R_below (kR_ g1.out) hb);replace g0:=a0_ (bq g0 hb);replace HB:=a0_ (aa aD hb)
       (try clear hb)
       (try clear hb2)
       (try clear hk)
       (try clear hi)
       refine hK.out _ _ ⟨(af g0.out 0).trans rfl,(af g0.out 1).trans rfl,(af g0.out 2).trans rfl,(af g0.out 3).trans rfl,(af g0.out 4).trans rfl,(af g0.out 5).trans rfl,(af g0.out 6).trans rfl,(af g0.out 7).trans rfl⟩ (fun hHeld=>?_);clear hK K
       refine cU ?_
       refine dg 4 (some 74) (fun K hK=>?_)
       refine dm Tryz.func118 (by kernel_rfl) rfl #[.int .i64 x3_5,.int .i64 1] (by rfl) rfl rfl cS ?_
       with_reducible refine(am.c k3 x3_5 1 g8 _ Z6.out).mono ?_
       rintro e W0 ⟨rfl,hb⟩;refine⟨_,rfl,?_⟩;replace HO_5:=a0_ (Kd.R_below (kR_ HO_5.out) hb);replace g1:=a0_ (Kd.R_below (kR_ g1.out) hb);replace g0:=a0_ (bq g0 hb);replace HB:=a0_ (aa aD hb)
       (try clear hb)
       (try clear hb2)
       (try clear hk)
       (try clear hi)
       refine hK.out _ _ ⟨(af g0.out 0).trans rfl,(af g0.out 1).trans rfl,(af g0.out 2).trans rfl,(af g0.out 3).trans rfl,(af g0.out 4).trans rfl,(af g0.out 5).trans rfl,(af g0.out 6).trans rfl,(af g0.out 7).trans rfl⟩ (fun hHeld=>?_);clear hK K
       refine cU ?_
       refine p_ 5 75 ?_
       refine dg 8 (some 78) (fun K hK=>?_)
       refine dm Tryz.func118 (by kernel_rfl) rfl #[.int .i64 a0_3,.int .i64 1] (by rfl) rfl rfl cS ?_
       with_reducible refine(am.c k3 a0_3 1 g9 _ Z7.out).mono ?_
       rintro e W1 ⟨rfl,hb⟩;refine⟨_,rfl,?_⟩;replace HO_5:=a0_ (Kd.R_below (kR_ HO_5.out) hb);replace g1:=a0_ (Kd.R_below (kR_ g1.out) hb);replace g0:=a0_ (bq g0 hb);replace HB:=a0_ (aa aD hb)
       (try clear hb)
       (try clear hb2)
       (try clear hk)
       (try clear hi)
       refine hK.out _ _ ⟨(af g0.out 0).trans rfl,(af g0.out 1).trans rfl,(af g0.out 2).trans rfl,(af g0.out 3).trans rfl,(af g0.out 4).trans rfl,(af g0.out 5).trans rfl,(af g0.out 6).trans rfl,(af g0.out 7).trans rfl⟩ (fun hHeld=>?_);clear hK K
       refine cU ?_
       refine p_ 9 79 ?_
       refine dg 13 (some 83) (fun K hK=>?_)
       refine dm Tryz.func118 (by kernel_rfl) rfl #[.int .i64 (l0_6.length:Int),.int .i64 1] (by rfl) rfl rfl cS ?_
       with_reducible refine(am.c k3 (l0_6.length:Int) 1 j2 _ Z8.out).mono ?_
       rintro e W2 ⟨rfl,hb⟩;refine⟨_,rfl,?_⟩;replace HO_5:=a0_ (Kd.R_below (kR_ HO_5.out) hb);replace g1:=a0_ (Kd.R_below (kR_ g1.out) hb);replace g0:=a0_ (bq g0 hb);replace HB:=a0_ (aa aD hb)
       (try clear hb)
       (try clear hb2)
       (try clear hk)
       (try clear hi)
       refine hK.out _ _ ⟨(af g0.out 0).trans rfl,(af g0.out 1).trans rfl,(af g0.out 2).trans rfl,(af g0.out 3).trans rfl,(af g0.out 4).trans rfl,(af g0.out 5).trans rfl,(af g0.out 6).trans rfl,(af g0.out 7).trans rfl⟩ (fun hHeld=>?_);clear hK K
       refine cU ?_
       refine p_ 14 84 ?_
       refine dg 18 (some 88) (fun K hK=>?_)
       refine dm Tryz.func118 (by kernel_rfl) rfl #[.int .i64 (l0_7.length:Int),.int .i64 1] (by rfl) rfl rfl cS ?_
       with_reducible refine(am.c k3 (l0_7.length:Int) 1 j6 _ Z9.out).mono ?_
       rintro e W3 ⟨rfl,hb⟩;refine⟨_,rfl,?_⟩;replace HO_5:=a0_ (Kd.R_below (kR_ HO_5.out) hb);replace g1:=a0_ (Kd.R_below (kR_ g1.out) hb);replace g0:=a0_ (bq g0 hb);replace HB:=a0_ (aa aD hb)
       (try clear hb)
       (try clear hb2)
       (try clear hk)
       (try clear hi)
       refine hK.out _ _ ⟨(af g0.out 0).trans rfl,(af g0.out 1).trans rfl,(af g0.out 2).trans rfl,(af g0.out 3).trans rfl,(af g0.out 4).trans rfl,(af g0.out 5).trans rfl,(af g0.out 6).trans rfl,(af g0.out 7).trans rfl⟩ (fun hHeld=>?_);clear hK K
       refine cU ?_
       refine p_ 19 89 ?_
       refine dg 22 (some 92) (fun K hK=>?_)
       refine dm Tryz.func118 (by kernel_rfl) rfl #[.int .i64 (y0.size:Int),.int .i64 2] (by rfl) rfl rfl cS ?_
       with_reducible refine(am.c k3 (y0.size:Int) 2 y1 _ F0.out).mono ?_
       rintro e W4 ⟨rfl,hb⟩;refine⟨_,rfl,?_⟩;replace HO_5:=a0_ (Kd.R_below (kR_ HO_5.out) hb);replace g1:=a0_ (Kd.R_below (kR_ g1.out) hb);replace g0:=a0_ (bq g0 hb);replace HB:=a0_ (aa aD hb)
       (try clear hb)
       (try clear hb2)
       (try clear hk)
       (try clear hi)
       refine hK.out _ _ ⟨(af g0.out 0).trans rfl,(af g0.out 1).trans rfl,(af g0.out 2).trans rfl,(af g0.out 3).trans rfl,(af g0.out 4).trans rfl,(af g0.out 5).trans rfl,(af g0.out 6).trans rfl,(af g0.out 7).trans rfl⟩ (fun hHeld=>?_);clear hK K
       refine cU ?_
       refine p_ 23 93 ?_
       refine p_ 25 95 ?_
       refine p_ 27 97 ?_
       refine p_ 28 2 ?_
       refine dZ (db HT_.out (by kernel_rfl)) ?_
       try go_wp2
       go_ret;exact⟨rr_,aD⟩
end Go.Proofs.YtiegkjimpclmaaaGreatDoor.P
namespace Go.Proofs.YtiegkjimpclmaaaGreatDoor.P
abbrev ss:=Int×Bool×Bool×Int×ByteArray×Int×List jT×List jT×Int×Int
def aX.e(l:List Int)(p q:Int)(m1:Int)(m2 m3:Bool)(m4:Int)(m5:ByteArray)(m6:Int)(x y:List jT): Option ss:=
 (aM.f l p q 30).bind fun t=>if t.1=0 then((aM.f l t.2.1 t.2.2 7).bind fun u=>some (m1,m2,m3,u.1,m5,m6,x,y,u.2.1,u.2.2))else(if t.1=1 then some (m1,m2,true,m4,m5,m6,x,y,t.2.1,t.2.2)else(if t.1=2 then((bL.f l t.2.1 t.2.2 [-1,65535,65536]).bind fun u=>some (u.1,m2,m3,m4,m5,m6,x,y,u.2.1,u.2.2))else some (m1,m2,m3,m4,m5,m6,x,y,t.2.1,t.2.2)))
def aX.f(k:Nat)(l:List Int)(p q:Int): Option ss:=
 (aM.f l p q 65536).bind fun t1=>(bb.f k l t1.2.1 t1.2.2).bind fun t2=>(bL.f l t2.2.1 t2.2.2 [1,2,5,15,16]).bind fun t3=>(dD.f k t1.1 t2.1 t3.1).bind fun m=>(bU.f l t3.2.1 t3.2.2 4).bind fun t5=>
  if t5.1=true then aX.e l t5.2.1 t5.2.2 m.1 m.2.1 m.2.2.1 m.2.2.2.1 m.2.2.2.2.1 m.2.2.2.2.2.1 m.2.2.2.2.2.2.1 m.2.2.2.2.2.2.2.1 else
   ((bL.f l t5.2.1 t5.2.2 [0,0,0,3,5]).bind fun t6=>(aH.f k l t6.2.1 t6.2.2).bind fun t7=>(aH.f k l t7.2.1 t7.2.2).bind fun t8=>(cq.f k m.1 m.2.1 m.2.2.1 m.2.2.2.1 m.2.2.2.2.1 m.2.2.2.2.2.1 m.2.2.2.2.2.2.1 m.2.2.2.2.2.2.2.1 t6.1 t7.1 t8.1).bind fun n=>
    if n.2.2.2.2.2.2.2.2=true then aX.e l t8.2.1 t8.2.2 n.1 n.2.1 n.2.2.1 n.2.2.2.1 n.2.2.2.2.1 n.2.2.2.2.2.1 n.2.2.2.2.2.2.1 n.2.2.2.2.2.2.2.1 else aX.e l t8.2.1 t8.2.2 m.1 m.2.1 m.2.2.1 m.2.2.2.1 m.2.2.2.2.1 m.2.2.2.2.2.1 m.2.2.2.2.2.2.1 m.2.2.2.2.2.2.2.1)
def aX.T3: Bool×List (List Nat×List Nat):=(true,[([],[]),([],[]),([],[]),([1,2],[1,2]),([],[]),([4,3],[4]),([],[]),([6,5],[6]),([0,3,5,7,7],[0,3,5,7]),([8],[8]),([9],[9]),([9],[9]),([],[]),([12,10,8,0,1,2,3,4,5,6,7,8,9,10,12],[10,12]),([11,13,0,1,2,3,4,5,6,7,8,9,10,11,12,13],[11])])
def aX.B3: List Nat:=[0,0,0,6,0,30,0,126,255,511,1023,1023,0,6143,16383]
theorem aX.tab3: eA .any (fc Tryz.f113 3)=aX.T3:=by kernel_rfl
theorem aX.bits3: du aX.T3.2 aX.B3=true:=by kernel_rfl
theorem aX.c(k:Nat)(g:Nat)(l:List Int)(p q:Int)(r1:Int)(r2 r3:Bool)(r4:Int)(r5:ByteArray)(r6:Int)(r7 r8:List jT)(r9 r10:Int)(w0 w:World)(hI:ak w0 w g l p q)(hB:Below w0.heap.size w0 w)(h:aX.f k l p q=some (r1,r2,r3,r4,r5,r6,r7,r8,r9,r10)):
 Calls Tryz.prog 113 #[.pointer (some ⟨g,0,none⟩)] w fun e w'=> ∃ v6_ v7_:Value,e = .returned (.agg #[.int .i64 r1,.bool r2,.bool r3,.int .i64 r4,.string r5,.int .i64 r6,v6_,v7_])∧Kd.R k45 45 w' w.heap.size (fun k_=>some k_≠(v7_:Value).ownBlock) v6_ r7∧Kd.R k45 45 w' w.heap.size (fun k_=>some k_≠(v6_:Value).ownBlock) v7_ r8∧ak w0 w' g l r9 r10∧Below w0.heap.size w0 w'∧aJ w w' g none:=by
 have HA:=a0_ (Cu.new hI hB);clear hI hB;unfold aX.f at h;obtain⟨⟨t1,p1,q1⟩,E1,h⟩:=ob_ h;obtain⟨⟨t2,p2,q2⟩,E2,h⟩:=ob_ h;obtain⟨y1,hy⟩:∃ y_:List Int,y_=[1,2,5,15,16]:=⟨_,rfl⟩;rw[← hy]at h;have NY1:=a0_ hy;clear hy;obtain⟨⟨t3,p3,q3⟩,E3,h⟩:=ob_ h;obtain⟨⟨m1,m2,m3,m4,m5,m6,m7,m8,mb⟩,E4,h⟩:=ob_ h;obtain⟨⟨t5,p5,q5⟩,E5,h⟩:=ob_ h;have H:=a0_ h;clear h;go_enter Tryz.func113,Tryz.ntmps113
 go_upto_if 20 with(first
  | ((with_reducible refine ax (N:=2) rfl ?_);refine cm 2 #[.int .i64 0,.bool false,.bool false,.int .i64 0,.string (⟨#[]⟩:ByteArray),.int .i64 0,.slice none 0 0,.slice none 0 0] 62 (fun b2 hg w1 hbox hb=>?_);replace HA:=a0_ (HA.out.box hg hbox hb);clear hb hbox hg)
  | ((with_reducible refine gt_ 111 rfl ?_);refine gs_ 9 Tryz.func111 #[.pointer (some ⟨g,0,none⟩),.int .i64 65536] ?_;refine(pO HA.out E1.out).mono ?_;rintro e w2 ⟨rfl,hA⟩;refine⟨_,rfl,?_⟩;replace HA:=a0_ hA;clear hA)
  | ((with_reducible refine gt_ 112 rfl ?_);refine gs_ 11 Tryz.func112 #[.pointer (some ⟨g,0,none⟩)] ?_;refine(si HA.out E2.out).mono ?_;rintro e w3 ⟨rfl,hA⟩;refine⟨_,rfl,?_⟩;replace HA:=a0_ hA;clear hA)
  | ((with_reducible refine ax (N:=13) rfl ?_);refine Kd.R_lit (Kd.int .i64) _ 3 ?hg (N:=13) ?hd (xs:=([1,2,5,15,16]:List Int)) (inner:=[.int .i64 1,.int .i64 2,.int .i64 5,.int .i64 15,.int .i64 16]) (ok:=fun _=>True) (okp:=fun _=>True) ?hr ?hp (fun _ hk=>hk) trivial (Below.refl _ _) (Nat.le_refl _) (by simp) ?_;(case hd=>rfl);(case hg=>rfl);(case hr=>first|(go_simp;done)|(go_simp;rfl));(case hp=>exact ko [1,2,5,15,16]);intro v w4 ho hb hg_ hn_;(first|rw[← NY1.out]at ho|(simp only[Int.reduceToNat]at ho;rw[← NY1.out]at ho));obtain⟨A1,c1,rfl⟩:=Kd.R_slice ho;replace HA:=a0_ (HA.out.lit hb ho);clear hb ho hg_ hn_)
  | ((with_reducible refine gt_ 114 rfl ?_);refine gs_ 14 Tryz.func114 #[.pointer (some ⟨g,0,none⟩),.slice A1 y1.length c1] ?_;refine(lB HA.out (.head _) E3.out).mono ?_;rintro e w5 ⟨rfl,hA⟩;refine⟨_,rfl,?_⟩;replace HA:=a0_ hA;clear hA)
  | ((with_reducible refine gt_ 166 rfl ?_);refine gs_ 15 Tryz.func166 #[.int .i64 t1,.string t2,.int .i64 t3] ?_;refine(rV HA.out E4.out).mono ?_;rintro e w6 ⟨A6,c6,A7,c7,rfl,hA⟩;refine⟨_,rfl,?_⟩;replace HA:=a0_ hA;clear hA)
  | ((with_reducible refine ax (N:=3) rfl ?_);refine cm 3 #[.int .i64 0,.bool false,.bool false,.int .i64 0,.string (⟨#[]⟩:ByteArray),.int .i64 0,.slice none 0 0,.slice none 0 0] 62 (fun bM hg w7 hbox hb=>?_);have HF:=a0_ (HA.out.apart hg);replace HA:=a0_ (HA.out.box hg hbox hb);clear hb hbox hg;have f1:=HF.out _ (.head _);have f2:=f1.symm;have f3:=HA.out.far (.head _);have f4:=f3.symm;obtain⟨_,_,_,_,_,_,_,_,_,_,_,_,_,_,_,_⟩:=bT (HA.out.k _ (.head _)).1)
  | ((with_reducible refine gt_ 99 rfl ?_);refine gs_ 19 Tryz.func99 #[.pointer (some ⟨g,0,none⟩),.int .i64 4] ?_;refine(sD (Cu.put8 [] _ HA.out lR HF.out) E5.out).mono ?_;rintro e w8 ⟨rfl,hA⟩;refine⟨_,rfl,?_⟩;replace HA:=a0_ hA;clear hA))
 (try simp only[Act.put,List.setIfInBounds_toArray,List.set_cons_zero,List.set_cons_succ])
 go_cut [] (fun wc=> ∃ (p q x1:Int) (x2 x3:Bool) (x4:Int) (x5:ByteArray) (x6:Int) (x y:List jT) (u v:Value),ab (aX.e l p q x1 x2 x3 x4 x5 x6 x y=some (r1,r2,r3,r4,r5,r6,r7,r8,r9,r10))∧ab (Cu w0 w wc g l p q [(bM,#[.int .i64 x1,.bool x2,.bool x3,.int .i64 x4,.string x5,.int .i64 x6,u,v]),(b2,#[.int .i64 0,.bool false,.bool false,.int .i64 0,.string (⟨#[]⟩:ByteArray),.int .i64 0,.slice none 0 0,.slice none 0 0])] [⟨u,v,x,y⟩] []))
 case first=>
  have hh:=H.out;clear H;cases t5
  case true=>
   simp only[if_true]at hh;go_wp2;go_meet
   case rel=>exact⟨p5,q5,m1,m2,m3,m4,m5,m6,m7,m8,_,_,⟨hh⟩,⟨HA.out.sub (pJ (.head _) (.tail _ (.head _))) (pg (.head _)) qa⟩⟩
  simp only[Bool.false_eq_true,if_false]at hh;obtain⟨y2,hy⟩:∃ y_:List Int,y_=[0,0,0,3,5]:=⟨_,rfl⟩;rw[← hy]at hh;have NY2:=a0_ hy;clear hy;obtain⟨⟨t6,p6,q6⟩,E6,hh⟩:=ob_ hh;obtain⟨⟨x7,p7,q7⟩,E7,hh⟩:=ob_ hh;obtain⟨⟨x8,p8,q8⟩,E8,hh⟩:=ob_ hh;obtain⟨⟨n1,n2,n3,n4,n5,n6,n7,n8,ok⟩,E9,hh⟩:=ob_ hh;have H:=a0_ hh;clear hh
  try go_wp2
  replace HA:=a0_ HA.out.drew;refine gl (n:=15) (S:=fun w'=>w'.heap[bM]? = some (.cells #[.int .i64 m1,.bool m2,.bool m3,.int .i64 m4,.string m5,.int .i64 m6,.slice A6 m7.length c6,.slice A7 m8.length c7] 62 (0,0))) (ds:=[]) #[false,false,false,false,false,false,false,false,false,false,false,false,false,false,false] (by kernel_rfl) rfl rfl (HA.out.k _ (.head _)).1 (fun hHeld=>?_);refine ck aX.tab3 aX.bits3 (fun HT_ HW_=>?_);generalize w8.drew=w9 at HA hHeld ⊢
  refine p_ 1 23 ?_
  refine p_ 4 26 ?_
  refine p_ 6 28 ?_
  refine take_ (i:=0) (N:=some 22) (v:=?_) (a':=?_) #[true,true,false,false,true,false,true,false,false,false,false,false,false,false,false] rfl rfl (iK HT_.out HW_.out (by kernel_rfl)) (fun _ _ _ h=>h) (Or.inl ⟨by rfl,?_⟩) hHeld ?_ ?_
  rotate_left
  · intro w' hs
    obtain⟨_,_,_,_,_,_,_,_,_,_,_,_,_,_,_,_⟩:=bT hs;go_simp
    with_reducible rfl
  rotate_left
  · simp only [Act.put, List.setIfInBounds_toArray, List.set_cons_zero, List.set_cons_succ, bu, bI]
    rfl
  have HA:=HA.out;obtain⟨BS,hBS⟩:∃ B:List (Nat×Array Value),B=[(bM,#[.int .i64 m1,.bool m2,.bool m3,.int .i64 m4,.string m5,.int .i64 m6,.slice A6 m7.length c6,.slice A7 m8.length c7]),(b2,#[.int .i64 0,.bool false,.bool false,.int .i64 0,.string (⟨#[]⟩:ByteArray),.int .i64 0,.slice none 0 0,.slice none 0 0])]:=⟨_,rfl⟩;obtain⟨MS,hMS_⟩:∃ M:List CV,M=[⟨.slice A6 m7.length c6,.slice A7 m8.length c7,m7,m8⟩]:=⟨_,rfl⟩;obtain⟨NS,hNS⟩:∃ M:List (Value×List Int),M=[(.slice A1 y1.length c1,y1)]:=⟨_,rfl⟩;rw[← hBS,← hMS_,← hNS]at HA
  have hM:(bM,#[.int .i64 m1,.bool m2,.bool m3,.int .i64 m4,.string m5,.int .i64 m6,.slice A6 m7.length c6,.slice A7 m8.length c7])∈BS:=by rw[hBS];exact .head _
  have hMS:(⟨.slice A6 m7.length c6,.slice A7 m8.length c7,m7,m8⟩:CV)∈MS:=by rw[hMS_];exact .head _
  refine gC (σ:=Option Addr×Nat×Option Addr×Nat×Option Addr×Nat×Option Addr×Nat×Option Addr×Nat×Nat) 2 #[true,true,true,true,true,true,true,true,true,true,true,true,true,false,false] (fun s_=>[(24,.slice s_.1 y2.length s_.2.1),(25,.int .i64 t6),(27,.slice s_.2.2.1 x7.length s_.2.2.2.1),(29,.slice s_.2.2.2.2.1 x8.length s_.2.2.2.2.2.1),(30,.tuple #[.agg #[.int .i64 n1,.bool n2,.bool n3,.int .i64 n4,.string n5,.int .i64 n6,.slice s_.2.2.2.2.2.2.1 n7.length s_.2.2.2.2.2.2.2.1,.slice s_.2.2.2.2.2.2.2.2.1 n8.length s_.2.2.2.2.2.2.2.2.2.1],.bool ok]),(5,.pointer (some ⟨s_.2.2.2.2.2.2.2.2.2.2,0,none⟩)),(21,.tuple #[.agg #[.int .i64 n1,.bool n2,.bool n3,.int .i64 n4,.string n5,.int .i64 n6,.slice s_.2.2.2.2.2.2.1 n7.length s_.2.2.2.2.2.2.2.1,.slice s_.2.2.2.2.2.2.2.2.1 n8.length s_.2.2.2.2.2.2.2.2.2.1],.bool ok]),(31,.agg #[.int .i64 n1,.bool n2,.bool n3,.int .i64 n4,.string n5,.int .i64 n6,.slice s_.2.2.2.2.2.2.1 n7.length s_.2.2.2.2.2.2.2.1,.slice s_.2.2.2.2.2.2.2.2.1 n8.length s_.2.2.2.2.2.2.2.2.2.1]),(32,.bool ok)]) (fun s_ w'=>Cu w0 w w' g l p8 q8 ((s_.2.2.2.2.2.2.2.2.2.2,#[.int .i64 0,.bool false,.bool false,.int .i64 0,.string (⟨#[]⟩:ByteArray),.int .i64 0,.slice none 0 0,.slice none 0 0])::BS) (⟨.slice s_.2.2.2.2.2.2.1 n7.length s_.2.2.2.2.2.2.2.1,.slice s_.2.2.2.2.2.2.2.2.1 n8.length s_.2.2.2.2.2.2.2.2.2.1,n7,n8⟩::(⟨.slice s_.2.2.2.2.1 x8.length s_.2.2.2.2.2.1,.slice none 0 0,x8,[]⟩::(⟨.slice s_.2.2.1 x7.length s_.2.2.2.1,.slice none 0 0,x7,[]⟩::MS))) ((.slice s_.1 y2.length s_.2.1,y2)::NS)∧∀ z∈BS,z.1≠s_.2.2.2.2.2.2.2.2.2.2) ?_ ?_
  rotate_left
  · intro J8b
    refine gC (σ:=Option Addr×Nat×Option Addr×Nat×Option Addr×Nat×Option Addr×Nat×Option Addr×Nat) 3 #[true,true,true,true,true,true,true,true,true,true,true,true,false,false,false] (fun s_=>[(24,.slice s_.1 y2.length s_.2.1),(25,.int .i64 t6),(27,.slice s_.2.2.1 x7.length s_.2.2.2.1),(29,.slice s_.2.2.2.2.1 x8.length s_.2.2.2.2.2.1),(30,.tuple #[.agg #[.int .i64 n1,.bool n2,.bool n3,.int .i64 n4,.string n5,.int .i64 n6,.slice s_.2.2.2.2.2.2.1 n7.length s_.2.2.2.2.2.2.2.1,.slice s_.2.2.2.2.2.2.2.2.1 n8.length s_.2.2.2.2.2.2.2.2.2],.bool ok]),(21,.tuple #[.agg #[.int .i64 n1,.bool n2,.bool n3,.int .i64 n4,.string n5,.int .i64 n6,.slice s_.2.2.2.2.2.2.1 n7.length s_.2.2.2.2.2.2.2.1,.slice s_.2.2.2.2.2.2.2.2.1 n8.length s_.2.2.2.2.2.2.2.2.2],.bool ok]),(31,.agg #[.int .i64 n1,.bool n2,.bool n3,.int .i64 n4,.string n5,.int .i64 n6,.slice s_.2.2.2.2.2.2.1 n7.length s_.2.2.2.2.2.2.2.1,.slice s_.2.2.2.2.2.2.2.2.1 n8.length s_.2.2.2.2.2.2.2.2.2]),(32,.bool ok)]) (fun s_ w'=>Cu w0 w w' g l p8 q8 BS (⟨.slice s_.2.2.2.2.2.2.1 n7.length s_.2.2.2.2.2.2.2.1,.slice s_.2.2.2.2.2.2.2.2.1 n8.length s_.2.2.2.2.2.2.2.2.2,n7,n8⟩::(⟨.slice s_.2.2.2.2.1 x8.length s_.2.2.2.2.2.1,.slice none 0 0,x8,[]⟩::(⟨.slice s_.2.2.1 x7.length s_.2.2.2.1,.slice none 0 0,x7,[]⟩::MS))) ((.slice s_.1 y2.length s_.2.1,y2)::NS)) ?_ ?_
    rotate_left
    · intro J8
      refine gC (σ:=Option Addr×Nat×Option Addr×Nat×Option Addr×Nat×Nat) 6 #[true,true,true,true,true,true,true,true,false,false,false,false,true,false,false] (fun s_=>[(24,.slice s_.1 y2.length s_.2.1),(25,.int .i64 t6),(27,.slice s_.2.2.1 x7.length s_.2.2.2.1),(29,.slice s_.2.2.2.2.1 x8.length s_.2.2.2.2.2.1),(5,.pointer (some ⟨s_.2.2.2.2.2.2,0,none⟩))]) (fun s_ w'=>Cu w0 w w' g l p8 q8 ((s_.2.2.2.2.2.2,#[.int .i64 0,.bool false,.bool false,.int .i64 0,.string (⟨#[]⟩:ByteArray),.int .i64 0,.slice none 0 0,.slice none 0 0])::BS) (⟨.slice s_.2.2.2.2.1 x8.length s_.2.2.2.2.2.1,.slice none 0 0,x8,[]⟩::(⟨.slice s_.2.2.1 x7.length s_.2.2.2.1,.slice none 0 0,x7,[]⟩::MS)) ((.slice s_.1 y2.length s_.2.1,y2)::NS)∧∀ z∈BS,z.1≠s_.2.2.2.2.2.2) ?_ ?_
      rotate_left
      · intro J7b
        refine gC (σ:=Option Addr×Nat×Option Addr×Nat×Option Addr×Nat) 7 #[true,true,true,true,true,true,true,true,false,false,false,false,false,false,false] (fun s_=>[(24,.slice s_.1 y2.length s_.2.1),(25,.int .i64 t6),(27,.slice s_.2.2.1 x7.length s_.2.2.2.1),(29,.slice s_.2.2.2.2.1 x8.length s_.2.2.2.2.2)]) (fun s_ w'=>Cu w0 w w' g l p8 q8 BS (⟨.slice s_.2.2.2.2.1 x8.length s_.2.2.2.2.2,.slice none 0 0,x8,[]⟩::(⟨.slice s_.2.2.1 x7.length s_.2.2.2.1,.slice none 0 0,x7,[]⟩::MS)) ((.slice s_.1 y2.length s_.2.1,y2)::NS)) ?_ ?_
        rotate_left
        · intro J7
          refine gC (σ:=Option Addr×Nat×Option Addr×Nat×Nat) 7 #[true,true,true,true,true,true,true,false,false,false,false,false,true,false,false] (fun s_=>[(24,.slice s_.1 y2.length s_.2.1),(25,.int .i64 t6),(27,.slice s_.2.2.1 x7.length s_.2.2.2.1),(5,.pointer (some ⟨s_.2.2.2.2,0,none⟩))]) (fun s_ w'=>Cu w0 w w' g l p7 q7 ((s_.2.2.2.2,#[.int .i64 0,.bool false,.bool false,.int .i64 0,.string (⟨#[]⟩:ByteArray),.int .i64 0,.slice none 0 0,.slice none 0 0])::BS) (⟨.slice s_.2.2.1 x7.length s_.2.2.2.1,.slice none 0 0,x7,[]⟩::MS) ((.slice s_.1 y2.length s_.2.1,y2)::NS)∧∀ z∈BS,z.1≠s_.2.2.2.2) ?_ ?_
          rotate_left
          · intro J5b
            refine gC (σ:=Option Addr×Nat×Option Addr×Nat) 8 #[true,true,true,true,true,true,true,false,false,false,false,false,false,false,false] (fun s_=>[(24,.slice s_.1 y2.length s_.2.1),(25,.int .i64 t6),(27,.slice s_.2.2.1 x7.length s_.2.2.2)]) (fun s_ w'=>Cu w0 w w' g l p7 q7 BS (⟨.slice s_.2.2.1 x7.length s_.2.2.2,.slice none 0 0,x7,[]⟩::MS) ((.slice s_.1 y2.length s_.2.1,y2)::NS)) ?_ ?_
            rotate_left
            · intro J5
              refine gC (σ:=Option Addr×Nat×Nat) 8 #[true,true,true,true,true,false,true,false,false,false,false,false,true,false,false] (fun s_=>[(24,.slice s_.1 y2.length s_.2.1),(25,.int .i64 t6),(5,.pointer (some ⟨s_.2.2,0,none⟩))]) (fun s_ w'=>Cu w0 w w' g l p6 q6 ((s_.2.2,#[.int .i64 0,.bool false,.bool false,.int .i64 0,.string (⟨#[]⟩:ByteArray),.int .i64 0,.slice none 0 0,.slice none 0 0])::BS) MS ((.slice s_.1 y2.length s_.2.1,y2)::NS)∧∀ z∈BS,z.1≠s_.2.2) ?_ ?_
              rotate_left
              · intro J3b
                refine gC (σ:=Option Addr×Nat) 9 #[true,true,true,true,true,false,true,false,false,false,false,false,false,false,false] (fun s_=>[(24,.slice s_.1 y2.length s_.2),(25,.int .i64 t6)]) (fun s_ w'=>Cu w0 w w' g l p6 q6 BS MS ((.slice s_.1 y2.length s_.2,y2)::NS)) ?_ ?_
                rotate_left
                · intro J3
                  refine gC (σ:=Option Addr×Nat×Nat) 9 #[true,true,true,false,true,false,true,false,false,false,false,false,true,false,false] (fun s_=>[(24,.slice s_.1 y2.length s_.2.1),(5,.pointer (some ⟨s_.2.2,0,none⟩))]) (fun s_ w'=>Cu w0 w w' g l p5 q5 ((s_.2.2,#[.int .i64 0,.bool false,.bool false,.int .i64 0,.string (⟨#[]⟩:ByteArray),.int .i64 0,.slice none 0 0,.slice none 0 0])::BS) MS ((.slice s_.1 y2.length s_.2.1,y2)::NS)∧∀ z∈BS,z.1≠s_.2.2) ?_ ?_
                  rotate_left
                  · intro J2b
                    refine gC (σ:=Option Addr×Nat) 10 #[true,true,true,false,true,false,true,false,false,false,false,false,false,false,false] (fun s_=>[(24,.slice s_.1 y2.length s_.2)]) (fun s_ w'=>Cu w0 w w' g l p5 q5 BS MS ((.slice s_.1 y2.length s_.2,y2)::NS)) ?_ ?_
                    rotate_left
                    · intro J2
                      refine gC (σ:=Nat) 10 #[true,true,false,false,true,false,true,false,false,false,false,false,true,false,false] (fun s_=>[(5,.pointer (some ⟨s_,0,none⟩))]) (fun s_ w'=>Cu w0 w w' g l p5 q5 ((s_,#[.int .i64 0,.bool false,.bool false,.int .i64 0,.string (⟨#[]⟩:ByteArray),.int .i64 0,.slice none 0 0,.slice none 0 0])::BS) MS NS∧∀ z∈BS,z.1≠s_) ?_ ?_
                      rotate_left
                      · intro J0b
                        refine mN (i:=2) (j:=12) (Ni:=some 24) (Nj:=some 5) #[true,true,true,false,true,false,true,false,false,false,false,false,false,false,false] #[true,true,false,false,true,false,true,false,false,false,false,false,true,false,false] rfl rfl rfl rfl (il HT_.out (by kernel_rfl)) (by decide) (by decide) (fun K hK=>?_) (fun K hK=>?_)
                        · skip
                          refine Kd.R_lit_step (Kd.int .i64) _ 3 ?hg (N:=24) ?hd (xs:=([0,0,0,3,5]:List Int)) (inner:=[.int .i64 0,.int .i64 0,.int .i64 0,.int .i64 3,.int .i64 5]) (ok:=fun _=>True) (okp:=fun _=>True) ?hr ?hp (fun _ hk=>hk) trivial (Below.refl _ _) (Nat.le_refl _) (by simp) ?_;(case hd=>rfl);(case hg=>rfl);(case hr=>first|(go_simp;done)|(go_simp;rfl));(case hp=>exact ko [0,0,0,3,5])
                          intro v1 w1 ho hb hg_ hn_
                          (first|rw[← NY2.out]at ho|(simp only[Int.reduceToNat]at ho;rw[← NY2.out]at ho))
                          obtain⟨A1,c1,rfl⟩:=Kd.R_slice ho;have hA:=HA.lit hb ho;exact hK.out _ _ (hA.k _ hM).1 (fun _=>nj_ (J2 (A1,c1) _ hA))
                        · skip
                          refine bx_ 5 #[.int .i64 0,.bool false,.bool false,.int .i64 0,.string (⟨#[]⟩:ByteArray),.int .i64 0,.slice none 0 0,.slice none 0 0] 62 (fun b hg w1 hbox hb=>?_);have HF:=HA.apart hg;have hA:=HA.box hg hbox hb;exact hK.out _ _ (hA.k _ (.tail _ hM)).1 (fun _=>nj_ (J0b b _ ⟨hA,HF⟩))
                      · rintro b w1 ⟨HA, HF⟩
                        have hHeld:=(HA.k _ (.tail _ hM)).1
                        refine nz_ ?_
                        refine dg 2 (some 24) (fun K hK=>?_)
                        refine Kd.R_lit_step (Kd.int .i64) _ 3 ?hg (N:=24) ?hd (xs:=([0,0,0,3,5]:List Int)) (inner:=[.int .i64 0,.int .i64 0,.int .i64 0,.int .i64 3,.int .i64 5]) (ok:=fun _=>True) (okp:=fun _=>True) ?hr ?hp (fun _ hk=>hk) trivial (Below.refl _ _) (Nat.le_refl _) (by simp) ?_;(case hd=>rfl);(case hg=>rfl);(case hr=>first|(go_simp;done)|(go_simp;rfl));(case hp=>exact ko [0,0,0,3,5])
                        intro v1 w1 ho hb hg_ hn_
                        (first|rw[← NY2.out]at ho|(simp only[Int.reduceToNat]at ho;rw[← NY2.out]at ho))
                        obtain⟨A1,c1,rfl⟩:=Kd.R_slice ho;have hA:=HA.lit hb ho;exact hK.out _ _ (hA.k _ (.tail _ hM)).1 (fun _=>nj_ (J2b (A1,c1,b) _ ⟨hA,HF⟩))
                    · rintro ⟨A1, c1⟩ w1 HA
                      have hHeld:=(HA.k _ hM).1
                      refine nz_ ?_
                      refine mN (i:=3) (j:=12) (Ni:=some 25) (Nj:=some 5) #[true,true,true,true,true,false,true,false,false,false,false,false,false,false,false] #[true,true,true,false,true,false,true,false,false,false,false,false,true,false,false] rfl rfl rfl rfl (il HT_.out (by kernel_rfl)) (by decide) (by decide) (fun K hK=>?_) (fun K hK=>?_)
                      · skip
                        refine dm Tryz.func114 (by kernel_rfl) rfl #[.pointer (some ⟨g,0,none⟩),.slice A1 y2.length c1] (by rfl) rfl rfl cS ?_
                        refine(lB HA (.head _) E6.out).mono ?_
                        rintro e w1 ⟨rfl,hA⟩;refine⟨_,rfl,?_⟩;exact hK.out _ _ (hA.k _ hM).1 (fun _=>nj_ (J3 (A1,c1) _ hA))
                      · skip
                        refine bx_ 5 #[.int .i64 0,.bool false,.bool false,.int .i64 0,.string (⟨#[]⟩:ByteArray),.int .i64 0,.slice none 0 0,.slice none 0 0] 62 (fun b hg w1 hbox hb=>?_);have HF:=HA.apart hg;have hA:=HA.box hg hbox hb;exact hK.out _ _ (hA.k _ (.tail _ hM)).1 (fun _=>nj_ (J2b (A1,c1,b) _ ⟨hA,HF⟩))
                  · rintro ⟨A1, c1, b⟩ w1 ⟨HA, HF⟩
                    have hHeld:=(HA.k _ (.tail _ hM)).1
                    refine nz_ ?_
                    refine dg 3 (some 25) (fun K hK=>?_)
                    refine dm Tryz.func114 (by kernel_rfl) rfl #[.pointer (some ⟨g,0,none⟩),.slice A1 y2.length c1] (by rfl) rfl rfl cS ?_
                    refine(lB HA (.head _) E6.out).mono ?_
                    rintro e w1 ⟨rfl,hA⟩;refine⟨_,rfl,?_⟩;exact hK.out _ _ (hA.k _ (.tail _ hM)).1 (fun _=>nj_ (J3b (A1,c1,b) _ ⟨hA,HF⟩))
                · rintro ⟨A1, c1⟩ w1 HA
                  have hHeld:=(HA.k _ hM).1
                  refine nz_ ?_
                  refine mN (i:=5) (j:=12) (Ni:=some 27) (Nj:=some 5) #[true,true,true,true,true,true,true,false,false,false,false,false,false,false,false] #[true,true,true,true,true,false,true,false,false,false,false,false,true,false,false] rfl rfl rfl rfl (il HT_.out (by kernel_rfl)) (by decide) (by decide) (fun K hK=>?_) (fun K hK=>?_)
                  · skip
                    refine dm Tryz.func168 (by kernel_rfl) rfl #[.pointer (some ⟨g,0,none⟩)] (by rfl) rfl rfl cS ?_
                    refine(nC HA E7.out).mono ?_
                    rintro e w1 ⟨A2,c2,rfl,hA⟩;refine⟨_,rfl,?_⟩;exact hK.out _ _ (hA.k _ hM).1 (fun _=>nj_ (J5 (A1,c1,A2,c2) _ hA))
                  · skip
                    refine bx_ 5 #[.int .i64 0,.bool false,.bool false,.int .i64 0,.string (⟨#[]⟩:ByteArray),.int .i64 0,.slice none 0 0,.slice none 0 0] 62 (fun b hg w1 hbox hb=>?_);have HF:=HA.apart hg;have hA:=HA.box hg hbox hb;exact hK.out _ _ (hA.k _ (.tail _ hM)).1 (fun _=>nj_ (J3b (A1,c1,b) _ ⟨hA,HF⟩))
              · rintro ⟨A1, c1, b⟩ w1 ⟨HA, HF⟩
                have hHeld:=(HA.k _ (.tail _ hM)).1
                refine nz_ ?_
                refine dg 5 (some 27) (fun K hK=>?_)
                refine dm Tryz.func168 (by kernel_rfl) rfl #[.pointer (some ⟨g,0,none⟩)] (by rfl) rfl rfl cS ?_
                refine(nC HA E7.out).mono ?_
                rintro e w1 ⟨A2,c2,rfl,hA⟩;refine⟨_,rfl,?_⟩;exact hK.out _ _ (hA.k _ (.tail _ hM)).1 (fun _=>nj_ (J5b (A1,c1,A2,c2,b) _ ⟨hA,HF⟩))
            · rintro ⟨A1, c1, A2, c2⟩ w1 HA
              have hHeld:=(HA.k _ hM).1
              refine nz_ ?_
              refine mN (i:=7) (j:=12) (Ni:=some 29) (Nj:=some 5) #[true,true,true,true,true,true,true,true,false,false,false,false,false,false,false] #[true,true,true,true,true,true,true,false,false,false,false,false,true,false,false] rfl rfl rfl rfl (il HT_.out (by kernel_rfl)) (by decide) (by decide) (fun K hK=>?_) (fun K hK=>?_)
              · skip
                refine dm Tryz.func168 (by kernel_rfl) rfl #[.pointer (some ⟨g,0,none⟩)] (by rfl) rfl rfl cS ?_
                refine(nC HA E8.out).mono ?_
                rintro e w1 ⟨A3,c3,rfl,hA⟩;refine⟨_,rfl,?_⟩;exact hK.out _ _ (hA.k _ hM).1 (fun _=>nj_ (J7 (A1,c1,A2,c2,A3,c3) _ hA))
              · skip
                refine bx_ 5 #[.int .i64 0,.bool false,.bool false,.int .i64 0,.string (⟨#[]⟩:ByteArray),.int .i64 0,.slice none 0 0,.slice none 0 0] 62 (fun b hg w1 hbox hb=>?_);have HF:=HA.apart hg;have hA:=HA.box hg hbox hb;exact hK.out _ _ (hA.k _ (.tail _ hM)).1 (fun _=>nj_ (J5b (A1,c1,A2,c2,b) _ ⟨hA,HF⟩))
          · rintro ⟨A1, c1, A2, c2, b⟩ w1 ⟨HA, HF⟩
            have hHeld:=(HA.k _ (.tail _ hM)).1
            refine nz_ ?_
            refine dg 7 (some 29) (fun K hK=>?_)
            refine dm Tryz.func168 (by kernel_rfl) rfl #[.pointer (some ⟨g,0,none⟩)] (by rfl) rfl rfl cS ?_
            refine(nC HA E8.out).mono ?_
            rintro e w1 ⟨A3,c3,rfl,hA⟩;refine⟨_,rfl,?_⟩;exact hK.out _ _ (hA.k _ (.tail _ hM)).1 (fun _=>nj_ (J7b (A1,c1,A2,c2,A3,c3,b) _ ⟨hA,HF⟩))
        · rintro ⟨A1, c1, A2, c2, A3, c3⟩ w1 HA
          have hHeld:=(HA.k _ hM).1
          refine nz_ ?_
          refine mN (i:=8) (j:=12) (Ni:=some 30) (Nj:=some 5) #[true,true,true,true,true,true,true,true,true,false,false,false,false,false,false] #[true,true,true,true,true,true,true,true,false,false,false,false,true,false,false] rfl rfl rfl rfl (il HT_.out (by kernel_rfl)) (by decide) (by decide) (fun K hK=>?_) (fun K hK=>?_)
          · skip
            refine dm Tryz.func167 (by kernel_rfl) rfl #[.agg #[.int .i64 m1,.bool m2,.bool m3,.int .i64 m4,.string m5,.int .i64 m6,.slice A6 m7.length c6,.slice A7 m8.length c7],.int .i64 t6,.slice A2 x7.length c2,.slice A3 x8.length c3] (by rfl) rfl rfl cS ?_
            refine(rS HA (.tail _ (.tail _ hMS)) (.tail _ (.head _)) (.head _) E9.out).mono ?_
            rintro e w1 ⟨D6,e6,D7,e7,rfl,hA⟩;refine⟨_,rfl,?_⟩;refine hK.out _ _ (hA.k _ hM).1 (fun hHeld=>?_);clear hK K
            refine cU ?_
            refine p_ 9 21 ?_
            refine p_ 10 31 ?_
            refine p_ 11 32 ?_
            exact nj_ (J8 (A1,c1,A2,c2,A3,c3,D6,e6,D7,e7) _ hA)
          · skip
            refine bx_ 5 #[.int .i64 0,.bool false,.bool false,.int .i64 0,.string (⟨#[]⟩:ByteArray),.int .i64 0,.slice none 0 0,.slice none 0 0] 62 (fun b hg w1 hbox hb=>?_);have HF:=HA.apart hg;have hA:=HA.box hg hbox hb;exact hK.out _ _ (hA.k _ (.tail _ hM)).1 (fun _=>nj_ (J7b (A1,c1,A2,c2,A3,c3,b) _ ⟨hA,HF⟩))
      · rintro ⟨A1, c1, A2, c2, A3, c3, b⟩ w1 ⟨HA, HF⟩
        have hHeld:=(HA.k _ (.tail _ hM)).1
        refine nz_ ?_
        refine dg 8 (some 30) (fun K hK=>?_)
        refine dm Tryz.func167 (by kernel_rfl) rfl #[.agg #[.int .i64 m1,.bool m2,.bool m3,.int .i64 m4,.string m5,.int .i64 m6,.slice A6 m7.length c6,.slice A7 m8.length c7],.int .i64 t6,.slice A2 x7.length c2,.slice A3 x8.length c3] (by rfl) rfl rfl cS ?_
        refine(rS HA (.tail _ (.tail _ hMS)) (.tail _ (.head _)) (.head _) E9.out).mono ?_
        rintro e w1 ⟨D6,e6,D7,e7,rfl,hA⟩;refine⟨_,rfl,?_⟩;refine hK.out _ _ (hA.k _ (.tail _ hM)).1 (fun hHeld=>?_);clear hK K
        refine cU ?_
        refine p_ 9 21 ?_
        refine p_ 10 31 ?_
        refine p_ 11 32 ?_
        exact nj_ (J8b (A1,c1,A2,c2,A3,c3,D6,e6,D7,e7,b) _ ⟨hA,HF⟩)
    · rintro ⟨A1, c1, A2, c2, A3, c3, D6, e6, D7, e7⟩ w1 HA
      have hHeld:=(HA.k _ hM).1
      refine nz_ ?_
      refine dg 12 (some 5) (fun K hK=>?_);refine bx_ 5 #[.int .i64 0,.bool false,.bool false,.int .i64 0,.string (⟨#[]⟩:ByteArray),.int .i64 0,.slice none 0 0,.slice none 0 0] 62 (fun b hg w1 hbox hb=>?_);have HF:=HA.apart hg;have hA:=HA.box hg hbox hb;exact hK.out _ _ (hA.k _ (.tail _ hM)).1 (fun _=>nj_ (J8b (A1,c1,A2,c2,A3,c3,D6,e6,D7,e7,b) _ ⟨hA,HF⟩))
  rintro⟨A1,c1,A2,c2,A3,c3,D6,e6,D7,e7,b⟩ w1 ⟨HA,HF⟩;dsimp only at HA HF;have hHeld:=(HA.k _ (.tail _ hM)).1
  refine nz_ ?_
  refine dg 13 none (fun K hK=>?_);obtain⟨_,_,_,_,_,_,_,_,_,_,_,_,_,_,_,_⟩:=bT (HA.k _ (.head _)).1
  refine lf (w1:=?_) (by rfl) rfl ?_ ?_
  rotate_left
  · go_simp
    rfl
  replace HA:=Cu.put8 [] _ HA lR HF (a0:=.int .i64 n1) (a1:=.bool n2) (a2:=.bool n3) (a3:=.int .i64 n4) (a4:=.string n5) (a5:=.int .i64 n6) (a6:=.slice D6 n7.length e6) (a7:=.slice D7 n8.length e7);refine hK.out _ _ (HA.k _ (.tail _ hM)).1 (fun hHeld=>?_);clear hK K
  refine p_ 14 6 ?_
  refine dZ (db HT_.out (by kernel_rfl)) ?_
  have HA:=a0_ HA;have f5:=HF _ hM;have f6:=f5.symm;have hh:=H.out;clear H;subst hBS hMS_ hNS;cases ok
  case true=>
   simp only[if_true]at hh;obtain⟨_,_,_,_,_,_,_,_,_,_,_,_,_,_,_,_⟩:=bT (HA.out.k _ (.head _)).1;obtain⟨_,_,_,_,_,_,_,_,_,_,_,_,_,_,_,_⟩:=bT (HA.out.k _ (.tail _ (.head _))).1;go_wp2;go_meet
   case rel=>exact⟨p8,q8,n1,n2,n3,n4,n5,n6,n7,n8,_,_,⟨hh⟩,⟨(Cu.put8 [(b,_)] [(b2,_)] HA.out (lP f6) (lP f1)).sub (pJ (.tail _ (.head _)) (.tail _ (.tail _ (.head _)))) (pg (.head _)) qa⟩⟩
  simp only[Bool.false_eq_true,if_false]at hh;go_wp2;go_meet
  case rel=>exact⟨p8,q8,m1,m2,m3,m4,m5,m6,m7,m8,_,_,⟨hh⟩,⟨HA.out.sub (pJ (.tail _ (.head _)) (.tail _ (.tail _ (.head _)))) (pg (.tail _ (.tail _ (.tail _ (.head _))))) qa⟩⟩
 case rest=>
  clear H;obtain⟨p,q,x1,x2,x3,x4,x5,x6,x,y,u,v,hE,HA⟩:=hcut;have hh:=hE.out;clear hE;obtain⟨hu,hv⟩:=HA.out.r _ (.head _);dsimp only at hu hv;obtain⟨Au,cu,eu⟩:=Kd.R_slice hu;obtain⟨Av,cv,ev⟩:=Kd.R_slice hv;clear hu hv;subst eu ev;unfold aX.e at hh;obtain⟨⟨t,p',q'⟩,E10,hh⟩:=ob_ hh;obtain⟨y3,hy⟩:∃ y_:List Int,y_=[-1,65535,65536]:=⟨_,rfl⟩;rw[← hy]at hh;have NY3:=a0_ hy;clear hy
  by_cases c0:t=0<;>first|(simp only[if_pos c0]at hh;have d0:=beq_iff_eq.mpr c0;have e0:=bne_eq_false_iff_eq.mpr c0;clear c0;obtain⟨⟨t',p'',q''⟩,E11,hh⟩:=ob_ hh)|(simp only[if_neg c0]at hh;have d0:=beq_eq_false_iff_ne.mpr c0;have e0:=bne_iff_ne.mpr c0)
  all_goals try(by_cases c1:t=1<;>first|(simp only[if_pos c1]at hh;have d1:=beq_iff_eq.mpr c1;have e1:=bne_eq_false_iff_eq.mpr c1;clear c1;have k1:=trivial)|(simp only[if_neg c1]at hh;have d1:=beq_eq_false_iff_ne.mpr c1;have e1:=bne_iff_ne.mpr c1))
  all_goals try(by_cases c2:t=2<;>first|(simp only[if_pos c2]at hh;have d2:=beq_iff_eq.mpr c2;have e2:=bne_eq_false_iff_eq.mpr c2;clear c2;obtain⟨⟨t',p'',q''⟩,E12,hh⟩:=ob_ hh)|(simp only[if_neg c2]at hh;have d2:=beq_eq_false_iff_ne.mpr c2;have e2:=bne_iff_ne.mpr c2))
  all_goals(
   simp only[Option.some.injEq,Prod.mk.injEq]at hh;obtain⟨rfl,rfl,rfl,rfl,rfl,rfl,rfl,rfl,rfl,rfl⟩:=hh
   go_wp2_with (first
    | ((with_reducible refine gt_ 111 rfl ?_);refine gs_ 36 Tryz.func111 #[.pointer (some ⟨g,0,none⟩),.int .i64 30] ?_;refine(pO HA.out E10.out).mono ?_;rintro e g0 ⟨rfl,hA⟩;refine⟨_,rfl,?_⟩;replace HA:=a0_ hA;clear hA;obtain⟨_,_,_,_,_,_,_,_,_,_,_,_,_,_,_,_⟩:=bT (HA.out.k _ (.head _)).1;obtain⟨_,_,_,_,_,_,_,_,_,_,_,_,_,_,_,_⟩:=bT (HA.out.k _ (.tail _ (.head _))).1)
    | ((with_reducible refine gt_ 111 rfl ?_);refine gs_ 40 Tryz.func111 #[.pointer (some ⟨g,0,none⟩),.int .i64 7] ?_;refine(pO HA.out E11.out).mono ?_;rintro e g1 ⟨rfl,hA⟩;refine⟨_,rfl,?_⟩;replace HA:=a0_ hA;clear hA;obtain⟨_,_,_,_,_,_,_,_,_,_,_,_,_,_,_,_⟩:=bT (HA.out.k _ (.head _)).1;obtain⟨_,_,_,_,_,_,_,_,_,_,_,_,_,_,_,_⟩:=bT (HA.out.k _ (.tail _ (.head _))).1)
    | ((with_reducible refine ax (N:=48) rfl ?_);refine Kd.R_lit (Kd.int .i64) _ 3 ?hg (N:=48) ?hd (xs:=([-1,65535,65536]:List Int)) (inner:=[.int .i64 (-1),.int .i64 65535,.int .i64 65536]) (ok:=fun _=>True) (okp:=fun _=>True) ?hr ?hp (fun _ hk=>hk) trivial (Below.refl _ _) (Nat.le_refl _) (by simp) ?_;(case hd=>rfl);(case hg=>rfl);(case hr=>first|(go_simp;done)|(go_simp;rfl));(case hp=>exact ko [-1,65535,65536]);intro v g2 ho hb hg_ hn_;(first|rw[← NY3.out]at ho|(simp only[Int.reduceToNat]at ho;rw[← NY3.out]at ho));obtain⟨A1,c1,rfl⟩:=Kd.R_slice ho;replace HA:=a0_ (HA.out.lit hb ho);clear hb ho hg_ hn_)
    | ((with_reducible refine gt_ 114 rfl ?_);refine gs_ 49 Tryz.func114 #[.pointer (some ⟨g,0,none⟩),.slice A1 y3.length c1] ?_;refine(lB HA.out (.head _) E12.out).mono ?_;rintro e g3 ⟨rfl,hA⟩;refine⟨_,rfl,?_⟩;replace HA:=a0_ hA;clear hA;obtain⟨_,_,_,_,_,_,_,_,_,_,_,_,_,_,_,_⟩:=bT (HA.out.k _ (.head _)).1;obtain⟨_,_,_,_,_,_,_,_,_,_,_,_,_,_,_,_⟩:=bT (HA.out.k _ (.tail _ (.head _))).1))
   first
    | (clear E11;refine bodyPost_ret (results_cell_row rfl _ _ b2 62 #[.int .i64 x1,.bool x2,.bool x3,.int .i64 t',.string x5,.int .i64 x6,.slice Au x.length cu,.slice Av y.length cv] (0,0) _ rfl (mh (Cu.set [] [(b2,_)] HA.out lR (lP f1) 3 (.int .i64 t')) f2 (.head _) x1 x2 x3 t' x5 x6 _ rfl).1 Tryz.underlying62 rfl (by kernel_rfl)) rfl ?_;exact⟨_,_,rr_,(mh (Cu.set [] [(b2,_)] HA.out lR (lP f1) 3 (.int .i64 t')) f2 (.head _) x1 x2 x3 t' x5 x6 _ rfl).2⟩)
    | (clear E12;refine bodyPost_ret (results_cell_row rfl _ _ b2 62 #[.int .i64 t',.bool x2,.bool x3,.int .i64 x4,.string x5,.int .i64 x6,.slice Au x.length cu,.slice Av y.length cv] (0,0) _ rfl (mh (Cu.set [] [(b2,_)] HA.out lR (lP f1) 0 (.int .i64 t')) f2 (.head _) t' x2 x3 x4 x5 x6 _ rfl).1 Tryz.underlying62 rfl (by kernel_rfl)) rfl ?_;exact⟨_,_,rr_,(mh (Cu.set [] [(b2,_)] HA.out lR (lP f1) 0 (.int .i64 t')) f2 (.head _) t' x2 x3 x4 x5 x6 _ rfl).2⟩)
    | (clear k1;refine bodyPost_ret (results_cell_row rfl _ _ b2 62 #[.int .i64 x1,.bool x2,.bool true,.int .i64 x4,.string x5,.int .i64 x6,.slice Au x.length cu,.slice Av y.length cv] (0,0) _ rfl (mh (Cu.set [] [(b2,_)] HA.out lR (lP f1) 2 (.bool true)) f2 (.head _) x1 x2 true x4 x5 x6 _ rfl).1 Tryz.underlying62 rfl (by kernel_rfl)) rfl ?_;exact⟨_,_,rr_,(mh (Cu.set [] [(b2,_)] HA.out lR (lP f1) 2 (.bool true)) f2 (.head _) x1 x2 true x4 x5 x6 _ rfl).2⟩)
    | (refine bodyPost_ret (results_cell_row rfl _ _ b2 62 #[.int .i64 x1,.bool x2,.bool x3,.int .i64 x4,.string x5,.int .i64 x6,.slice Au x.length cu,.slice Av y.length cv] (0,0) _ rfl (mh HA.out f2 (.head _) x1 x2 x3 x4 x5 x6 _ rfl).1 Tryz.underlying62 rfl (by kernel_rfl)) rfl ?_;exact⟨_,_,rr_,(mh HA.out f2 (.head _) x1 x2 x3 x4 x5 x6 _ rfl).2⟩))
end Go.Proofs.YtiegkjimpclmaaaGreatDoor.P
namespace Go.Proofs.YtiegkjimpclmaaaGreatDoor.Pure
open Go.Proofs.YtiegkjimpclmaaaGreatDoor.P
set_option linter.unusedSectionVars false
theorem lI{s:List UInt8}(h:cO s=true): cO (fx s)=true:=by
 rcases eK 46 s with⟨_,h1⟩|⟨p,r,h1,h2,_⟩
 ·rw[g_ s h1];decide
 · have hr : fx s = r := by rw [h1]; exact jG p r h2
   have hs:bC 46 s=p::bC 46 r:=by rw[h1];exact dM 46 p _ h2
   have hne:s≠[]:=by intro e;rw[e]at h1;simp at h1
   have hl:=jO s;rw[hr]at hl ⊢;unfold cO at h ⊢;rw[show bG s=bC 46 s by unfold bG;rw[if_neg hne],hs]at h;simp only[Bool.and_eq_true,decide_eq_true_eq,List.length_cons,List.all_cons]at h ⊢;unfold bG
   split
   ·exact⟨by omega,by simp,rfl⟩
   ·exact⟨by omega,by omega,h.2.2.2⟩
theorem od(s:ByteArray)(hs:s.size<4611686018427387904): ∃ q2 q3,cy.f s (⟨#[46]⟩:ByteArray)=some (mkB ((bC 46 s.data.toList).headD []),q2,q3):=by
 unfold cy.f cX.f aV.f;rw[if_pos (show(⟨#[46]⟩:ByteArray).size=1 from rfl)];simp only[Option.bind_some];rw[show List.headD (⟨#[46]⟩:ByteArray).data.toList 0=46 from rfl,show(⟨#[46]⟩:ByteArray).size=1 from rfl]
 rcases eK 46 s.data.toList with⟨h1,h2⟩|⟨p,r,h1,h2,h3⟩
 · rw [h1, if_neg (by omega), el _ _ h2]
   exact⟨_,_,by show some (s,_,_)=some (mkB s.data.toList,_,_);rw[fJ]⟩
 · have hl : p.length + (r.length + 1) = s.size := by rw [aU, h1]; simp
   rw[h3,show(((1:Nat):Int))=1 from rfl,d_ (by omega),if_pos (by omega),if_pos (by omega),if_pos (by omega),if_pos (by omega),if_pos (by omega),Int.toNat_natCast,Int.toNat_natCast,fE];refine⟨s.extract (p.length+1) s.size,true,?_⟩
   have e:(s.data.toList.drop 0).take (p.length-0)=(bC 46 s.data.toList).headD []:=by
    rw[h1,dM 46 p r h2];simp
   rw[e];rfl
section
variable (s:ByteArray) (hs:s.size≤2000)
include hs
theorem qi: ∀ (n a:Nat) (acc:List Int),s.size-a≤n→a≤s.size→acc.length+9*n≤100000→(∀ x∈acc,0≤x∧x<(s.size:Int)) →
 ∃ r,Ev (fun k=>bQ.l0 k s acc (a:Int)) r∧Ev (fun k=>be.l0 k s acc (a:Int)) r∧r.length≤100000∧∀ x∈r,0≤x∧x<(s.size:Int)
 | n,a,acc,hn,ha,hl,hacc=>by
  by_cases h:(a:Int)<(s.size:Int)
  · obtain ⟨r, r', g1, g2, g3, g4⟩ := mS s hs a ha
    have es:∀ k,bQ.l0 (k+1) s acc (a:Int)=(ah.f k s (a:Int)).bind fun g0=>(if g0.2.2.2=true then(if acc.length+g0.2.2.1.length<17592186044416 then(bQ.l0 k s (acc++g0.2.2.1) g0.2.1)else(none))else(some acc)):=fun k=>by
     conv=>lhs;unfold bQ.l0
     rw[if_pos h]
    have ei:∀ k,be.l0 (k+1) s acc (a:Int)=(ac.f k s (a:Int)).bind fun g5=>(if g5.2.2.2=true then(if acc.length+g5.2.1.length<17592186044416 then(be.l0 k s (acc++g5.2.1) g5.2.2.1)else(none))else(some acc)):=fun k=>by
     conv=>lhs;unfold be.l0
     rw[if_pos h]
    by_cases hr:r.2.2.2=true
    · obtain ⟨q1, q2, q3, q4, q5, q6, q7⟩ := g4 hr
      obtain⟨b,hb⟩:∃ b:Nat,r.2.1=(b:Int):=⟨r.2.1.toNat,by omega⟩
      obtain⟨t,f1,f2,f3⟩:=qi (n-1) b (acc++r.2.2.1) (by omega) (by omega) (by rw[List.length_append];omega) (by
       intro x hx
       rcases List.mem_append.1 hx with hx|hx
       ·exact hacc x hx
       ·exact q7 x hx)
      refine⟨t,Ev.step es (Ev.bind g1 ?_),Ev.step ei (Ev.bind g2 ?_),f3⟩
      · simp only [if_pos hr, if_pos (show acc.length + r.2.2.1.length < 17592186044416 by omega), hb]
        exact f1
      · rw [g3] at hr
        simp only[if_pos hr,← q3,← q2,if_pos (show acc.length+r.2.2.1.length<17592186044416 by omega),hb];exact f2
    · refine ⟨acc, Ev.step es (Ev.bind g1 ?_), Ev.step ei (Ev.bind g2 ?_), by omega, hacc⟩
      ·simp only[if_neg hr];exact Ev.now _
      · rw [g3] at hr
        simp only[if_neg hr];exact Ev.now _
  · refine ⟨acc, Ev.step (f := fun _ => some acc) (fun k => ?_) (Ev.now _), Ev.step (f := fun _ => some acc) (fun k => ?_) (Ev.now _), by omega, hacc⟩
    · show bQ.l0 (k + 1) s acc (a : Int) = _
      conv=>lhs;unfold bQ.l0
      rw[if_neg h]
    · show be.l0 (k + 1) s acc (a : Int) = _
      conv=>lhs;unfold be.l0
      rw[if_neg h]
 termination_by n=>n
theorem oT(rest:ByteArray): ∃ P:Int→Bool,∀ x,0≤x∧x<(s.size:Int)→∃ r,Ev (fun k=>ah.f k s x) r∧(r.2.2.2&&(r.1.toList==rest.toList))=P x∧∃ K,∀ k,K≤k→(ac.f k s x).isSome=true∧ff k s rest x=P x:=by
 have key:∀ x,0≤x∧x<(s.size:Int)→∃ v:Bool,∃ r,Ev (fun k=>ah.f k s x) r∧(r.2.2.2&&(r.1.toList==rest.toList))=v∧∃ K,∀ k,K≤k→(ac.f k s x).isSome=true∧ff k s rest x=v:=by
  intro x hx;obtain⟨a,rfl⟩:∃ a:Nat,x=(a:Int):=⟨x.toNat,by omega⟩;obtain⟨r,r',g1,⟨K,g2⟩,g3,g4⟩:=oK s hs a (by omega);refine⟨_,r,g1,rfl,K,fun k hk=>?_⟩;have e:ac.f k s (a:Int)=some r':=g2 k hk;refine⟨by rw[e];rfl,?_⟩;unfold ff;rw[e];show(r'.2.2.2&&(r'.1.toList==rest.toList))=_
  by_cases hr:r.2.2.2=true
  ·rw[← g3,(g4 hr).1]
  · rw [← g3, Bool.eq_false_iff.mpr hr]
    rfl
 refine⟨fun x=>if h:0≤x∧x<(s.size:Int)then(key x h).choose else false,fun x hx=>?_⟩;simp only[dif_pos hx];exact(key x hx).choose_spec
theorem kr(rest:ByteArray)(P:Int→Bool)(hP:∀ x,0≤x∧x<(s.size:Int)→∃ K,∀ k,K≤k→(ac.f k s x).isSome=true∧ff k s rest x=P x): ∀ (places:List Int),(∀ x∈places,0≤x∧x<(s.size:Int)) →
 ∃ K,∀ k,K≤k→∀ x∈places,(ac.f k s x).isSome=true∧ff k s rest x=P x
 | [],_=>⟨0,fun _ _ x hx=>by cases hx⟩
 | y::ys,h=>by
  obtain⟨K1,h1⟩:=hP y (h y List.mem_cons_self)
  obtain⟨K2,h2⟩:=kr rest P hP ys fun x hx=>h x (List.mem_cons_of_mem _ hx)
  refine⟨max K1 K2,fun k hk x hx=>?_⟩
  rcases List.mem_cons.1 hx with rfl|hx
  ·exact h1 k (by omega)
  ·exact h2 k (by omega) x hx
def qw(k:Nat)(b rest:ByteArray)(places:List Int)(head:ByteArray): Option ByteArray:=(aw.f k rest).bind fun g0=>(if 0<(g0.1.length:Int)then((some (([(((bn ByteArray.empty g0.1 0).size:Int))%256]:List Int):List Int)).bind fun g1=>(if(strOfNums g1).size+(bn ByteArray.empty g0.1 0).size≤9223372036854775807 then(if head.size+((strOfNums g1)++(bn ByteArray.empty g0.1 0)).size≤9223372036854775807 then((bo.f k rest).bind fun g2=>(bx.l0 k b g2 places (head++((strOfNums g1)++(bn ByteArray.empty g0.1 0)))))else(none))else(none)))else(none))
theorem kx(rest head:ByteArray)(hh:head.size≤2000)(P:Int→Bool)(places:List Int)(hl:places.length≤100000)(hr:∀ x∈places,0≤x∧x<(s.size:Int))
 (hP:∀ x,0≤x∧x<(s.size:Int)→∃ r,Ev (fun k=>ah.f k s x) r∧(r.2.2.2&&(r.1.toList==rest.toList))=P x):∀ (m i:Nat),i+m=places.length→(∀ j y,j<i→places[j]? = some y→P y=false) →
 (0≤dS P places 0∧Ev (fun k=>bx.l1 k s rest places head places (places.length:Int) (i:Int)) ((s++head)++strOfNums [(wrap64 (192+(wrap64 (Int.tdiv (rd places (dS P places 0)) 256))))%256,(rd places (dS P places 0))%256])) ∨
 (¬ 0≤dS P places 0∧∀ r,Ev (fun k=>qw k s rest places head) r→Ev (fun k=>bx.l1 k s rest places head places (places.length:Int) (i:Int)) r)
 | 0,i,him,hn=>by
  right
  have hm:dS P places 0 = -1:=gf P places 0 (fun y hy=>by obtain⟨j,hj,e⟩:=List.mem_iff_getElem.1 hy;exact hn j y (by omega) (by rw[List.getElem?_eq_getElem hj,e]));refine⟨by omega,fun r hr2=>Ev.step (fun k=>?_) hr2⟩;show bx.l1 (k+1) s rest places head places (places.length:Int) (i:Int)=_
  conv=>lhs;unfold bx.l1
  rw[if_neg (by omega)];rfl
 | m+1,i,him,hn=>by
  have hi:i<places.length:=by omega
  have hrd:rd places (i:Int)=places[i]:=by
   unfold rd;rw[Int.toNat_natCast,List.getD_eq_getElem?_getD,List.getElem?_eq_getElem hi];rfl
  obtain⟨t,e1,e2⟩:=hP places[i] (hr _ (List.getElem_mem hi))
  have hstep:∀ k,bx.l1 (k+1) s rest places head places (places.length:Int) (i:Int)=(ah.f k s places[i]).bind fun g0=>(if(g0.2.2.2&&(g0.1.toList==rest.toList))=true then some ((s++head)++strOfNums [(wrap64 (192+(wrap64 (Int.tdiv places[i] 256))))%256,places[i]%256])else bx.l1 k s rest places head places (places.length:Int) ((i+1:Nat):Int)):=by
   intro k
   conv=>lhs;unfold bx.l1
   have hy:∀ y1 y2:Int,(strOfNums [y1,y2]).size=2:=fun y1 y2=>by rw[strOfNums_size];rfl
   rw[if_pos (by omega),if_pos (by omega),if_pos (by omega),hrd,d_ (by omega),if_pos (show s.size+head.size≤9223372036854775807 by omega),Option.bind_some,if_pos (by rw[hy,ByteArray.size_append];omega)]
   congr 1
   funext bt
   by_cases h1:bt.2.2.2=true
   · rw [if_pos h1, h1, Bool.true_and]
     by_cases h2:bt.1.toList=rest.toList
     ·rw[if_pos h2,if_pos (by rw[h2];simp)]
     ·rw[if_neg h2,if_neg (by rw[beq_iff_eq];exact h2)]
   ·rw[if_neg h1,Bool.eq_false_iff.mpr h1,Bool.false_and,if_neg (by simp)]
  cases hp:P places[i]with
  | true=>
   left
   have hx:dS P places 0=(i:Int):=by rw[gK P places 0 i places[i] (List.getElem?_eq_getElem hi) hp hn];omega
   rw[hx,hrd];refine⟨by omega,Ev.step hstep (Ev.bind e1 ?_)⟩;rw[e2,hp];exact Ev.now _
  | false=>
   rcases kx rest head hh P places hl hr hP m (i+1) (by omega) (fun j y hj hy=>by
    by_cases e:j=i
    · subst e
      rw[List.getElem?_eq_getElem hi]at hy;cases hy;exact hp
    ·exact hn j y (by omega) hy)with⟨g1,g2⟩|⟨g1,g2⟩
   · left
     refine⟨g1,Ev.step hstep (Ev.bind e1 ?_)⟩;rw[e2,hp];exact g2
   · right
     refine⟨g1,fun r hr2=>Ev.step hstep (Ev.bind e1 ?_)⟩;rw[e2,hp];exact g2 r hr2
theorem ll(places:List Int)(hl:places.length≤100000)(hr:∀ x∈places,0≤x∧x<(s.size:Int)): ∀ (n:Nat) (rest head:ByteArray),rest.size≤n→n≤60→cO rest.data.toList=true→head.size+21*n≤2000 →
 ∃ r,Ev (fun k=>bx.l0 k s rest places head) r∧Ev (fun k=>bD.l0 k s places head rest) r
 | n,rest,head,hn,h60,hg,hh=>by
  have h0:(⟨#[0]⟩:ByteArray).size=1:=rfl
  by_cases hne:rest.toList=([]:List UInt8)
  · refine ⟨(s ++ head) ++ (⟨#[0]⟩ : ByteArray), Ev.step (f := fun _ => some _) (fun k => ?_) (Ev.now _), Ev.step (f := fun _ => some _) (fun k => ?_) (Ev.now _)⟩
    · show bx.l0 (k + 1) s rest places head = _
      unfold bx.l0;rw[if_pos hne,if_pos (by omega),if_pos (by rw[ByteArray.size_append];omega)]
    · show bD.l0 (k + 1) s places head rest = _
      unfold bD.l0;rw[if_pos hne,if_pos (by omega)]
  · obtain ⟨P, hP⟩ := oT s hs rest
    obtain⟨K,hK⟩:=kr s hs rest P (fun x hx=>(hP x hx).choose_spec.2.2) places hr
    have hK2:∀ k,K≤k→ke k s places=true∧dS (ff k s rest) places 0=dS P places 0:=fun k hk=>⟨List.all_eq_true.2 fun x hx=>(hK k hk x hx).1,jD _ _ places 0 fun x hx=>(hK k hk x hx).2⟩
    have es:∀ k,bx.l0 (k+1) s rest places head=bx.l1 k s rest places head places (places.length:Int) ((0:Nat):Int):=fun k=>by
     conv=>lhs;unfold bx.l0
     rw[if_neg hne];rfl
    rcases kx s hs rest head (by omega) P places hl hr (fun x hx=>by obtain⟨r,a1,a2,_⟩:=hP x hx;exact⟨r,a1,a2⟩) places.length 0 (by omega) (fun j y hj=>absurd hj (Nat.not_lt_zero _))with⟨g1,g2⟩|⟨g1,g2⟩
    · refine ⟨_, Ev.step es g2, ⟨K + 1, fun k hk => ?_⟩⟩
      obtain⟨j,rfl⟩:∃ j,k=j+1:=⟨k-1,by omega⟩;obtain⟨d1,d2⟩:=hK2 j (by omega);show bD.l0 (j+1) s places head rest=_
      conv=>lhs;unfold bD.l0
      rw[if_neg hne,if_pos d1,d2,if_pos g1,if_pos (by omega)]
    · have hnel : rest.data.toList ≠ [] := by rw [← Lib.toList_data]; exact hne
      obtain⟨lab,l1,l2,l3⟩:=fH rest (by omega);have l4:=l3 (l2.trans hg)
      have hsp:bG rest.data.toList=bC 46 rest.data.toList:=by unfold bG;rw[if_neg hnel]
      obtain⟨p,ps,hp⟩:=List.exists_cons_of_ne_nil (eL 46 rest.data.toList)
      have hpl:p.length≤60:=by have:=eY 46 rest.data.toList p (by rw[hp];exact List.mem_cons_self);rw[← aU]at this;omega
      have hpl20:p.length≤20:=by
       unfold cO at hg;rw[hsp,hp]at hg;simp only[Bool.and_eq_true,List.all_cons]at hg;exact fM hg.2.2.1
      have hrd:bn ByteArray.empty lab.1 0=mkB p:=by rw[l4,hsp,hp];rfl
      have hlen:0<(lab.1.length:Int):=by rw[l4,hsp,hp];simp
      have h1s:∀ v:Int,(strOfNums [v]).size=1:=fun v=>by rw[strOfNums_size];rfl
      obtain⟨q2,q3,hcut⟩:=od rest (by omega);rw[hp]at hcut;have hpar:=ig rest (by omega)
      have hpos:0<rest.size:=by rw[aU];exact List.length_pos_iff.2 hnel
      have hps:(mkB (fx rest.data.toList)).size<rest.size:=by rw[cF];have:=jO rest.data.toList;rw[← aU]at this;omega
      obtain⟨r,f1,f2⟩:=ll places hl hr (n-1) (mkB (fx rest.data.toList)) (head++(strOfNums [((mkB p).size:Int)%256]++mkB p)) (by omega) (by omega) (by rw[cn];exact lI hg) (by rw[ByteArray.size_append,ByteArray.size_append,h1s,cF];omega);refine⟨r,Ev.step es (g2 r ?_),?_⟩
      · refine Ev.congr (fun k => rfl) (Ev.bind l1 ?_)
        simp only[hrd,if_pos hlen,Option.bind_some,if_pos (show(strOfNums [((mkB p).size:Int)%256]).size+(mkB p).size≤9223372036854775807 by rw[h1s,cF];omega),if_pos (show head.size+(strOfNums [((mkB p).size:Int)%256]++mkB p).size≤9223372036854775807 by rw[ByteArray.size_append,h1s,cF];omega)];exact Ev.bind (kH rest (by omega)) f1
      · obtain ⟨K3, f3⟩ := f2
        refine⟨max K K3+1,fun k hk=>?_⟩;obtain⟨j,rfl⟩:∃ j,k=j+1:=⟨k-1,by omega⟩;obtain⟨d1,d2⟩:=hK2 j (by omega);show bD.l0 (j+1) s places head rest=_
        conv=>lhs;unfold bD.l0
        rw[if_neg hne,if_pos d1,d2,if_neg g1,hcut,Option.bind_some];show(if head.size+(mkB p).size<1099511627776 then((dH.f rest).bind fun q=>bD.l0 j s places (head++(strOfNums [(((mkB p).size:Int))%256]++mkB p)) q)else none)=some r;rw[if_pos (by rw[cF];omega),hpar,Option.bind_some];exact f3 j (by omega)
 termination_by n rest=>rest.size
theorem pY(t:ByteArray)(ht:t.size≤60)(hg:cO t.data.toList=true): ∃ r,Ev (fun k=>bx.f k s t) r∧Ev (fun k=>bD.f k s t) r:=by
 obtain⟨places,e1,e2,hl,hr⟩:=qi s hs s.size 0 [] (by omega) (by omega) (by simp;omega) (fun x hx=>by cases hx);obtain⟨r,f1,f2⟩:=ll s hs places hl hr 60 t (⟨#[]⟩:ByteArray) ht (Nat.le_refl _) hg (by show 0+21*60≤2000;omega);exact⟨r,Ev.congr (fun k=>rfl) (Ev.bind e1 f1),Ev.congr (fun k=>rfl) (Ev.bind e2 f2)⟩
end
end Go.Proofs.YtiegkjimpclmaaaGreatDoor.Pure
namespace Go.Proofs.YtiegkjimpclmaaaGreatDoor.Pure
open Go.Proofs.YtiegkjimpclmaaaGreatDoor.P
set_option linter.unusedSectionVars false
theorem iX{α:Type}{g:Nat→Option α}{r r':α}(h:Ev g r)(h':Ev g r'): r=r':=by
 obtain⟨K,h⟩:=h;obtain⟨K',h'⟩:=h';have h1:=h (max K K') (by omega);rw[h' (max K K') (by omega)]at h1;exact(Option.some.inj h1).symm
inductive eF (t:ByteArray):Nat→Nat→List ByteArray→List Int→Nat→Prop
 | fin (a le:Nat) (h:a<t.size) (h0:ba t a=0):eF t a le [] [] (a+1)
 | ptr (a le:Nat) (ls:List ByteArray) (pl:List Int) (en:Nat) (h:a+1<t.size) (h0:192≤ba t a) (hp:eb t a<le) (hr:eF t (eb t a) (eb t a) ls pl en):eF t a le ls [] (a+2)
 | lab (a le : Nat) (ls : List ByteArray) (pl : List Int) (en : Nat) (h0 : 0 < ba t a) (h1 : ba t a < 64) (h2 : a + 1 + ba t a ≤ t.size) (hr : eF t (a + 1 + ba t a) le ls pl en) :
  eF t a le (mkB ((ew t a).map eq)::ls) ((a:Int)::pl) en
theorem eF.more{t:ByteArray}{a le:Nat}{ls:List ByteArray}{pl:List Int}{en:Nat}(h:eF t a le ls pl en): ∀ le',le≤le'→eF t a le' ls pl en:=by
 induction h with
 | fin a le h h0=>exact fun le' _=> .fin a le' h h0
 | ptr a le ls pl en h h0 hp hr ih=>exact fun le' hl=> .ptr a le' ls pl en h h0 (by omega) hr
 | lab a le ls pl en h0 h1 h2 hr ih=>exact fun le' hl=> .lab a le' ls pl en h0 h1 h2 (ih le' hl)
theorem fm(b x:ByteArray)(a:Nat)(h:a<b.size): ba (b++x) a=ba b a:=by
 have h1:a<b.data.toList.length:=by rw[← aU];exact h
 have h2:a<(b++x).data.toList.length:=by rw[← aU,ByteArray.size_append];omega
 have e:=eS b a h1;have e2:=eS (b++x) a h2
 have e3:(b++x).data.toList=b.data.toList++x.data.toList:=by simp
 have e4:(b++x).data.toList[a]=b.data.toList[a]:=by
  simp only[e3];exact List.getElem_append_left h1
 unfold ba;rw[e,e2,e4]
theorem pL(b x:ByteArray)(a:Nat)(h:a+1+ba b a≤b.size): ew (b++x) a=ew b a:=by
 unfold ew;rw[fm b x a (by omega),show(b++x).data.toList=b.data.toList++x.data.toList by simp,List.drop_append_of_le_length (by rw[← aU];omega),List.take_append_of_le_length (by rw[List.length_drop,← aU];omega)]
theorem oz(b x:ByteArray)(a:Nat)(h:a+1<b.size): eb (b++x) a=eb b a:=by
 unfold eb;rw[fm b x a (by omega),fm b x (a+1) h]
theorem eF.app{b:ByteArray}{a le:Nat}{ls:List ByteArray}{pl:List Int}{en:Nat}(h:eF b a le ls pl en)(x:ByteArray): eF (b++x) a le ls pl en:=by
 induction h with
 | fin a le h h0=>exact .fin a le (by rw[ByteArray.size_append];omega) (by rw[fm b x a h];exact h0)
 | ptr a le ls pl en h h0 hp hr ih=>
  have e:=oz b x a h;exact .ptr a le ls pl en (by rw[ByteArray.size_append];omega) (by rw[fm b x a (by omega)];exact h0) (by rw[e];exact hp) (by rw[e];exact ih)
 | lab a le ls pl en h0 h1 h2 hr ih=>
  have e:=fm b x a (by omega);have e2:=pL b x a h2;have:=eF.lab (t:=b++x) a le ls pl en (by rw[e];exact h0) (by rw[e];exact h1) (by rw[e,ByteArray.size_append];omega) (by rw[e];exact ih);rw[e2]at this;exact this
theorem eF.bound{t:ByteArray}{a le:Nat}{ls:List ByteArray}{pl:List Int}{en:Nat}(h:eF t a le ls pl en): a<en∧en≤t.size∧(∀ x∈pl,(a:Int)≤x∧x<(en:Int))∧pl.length≤ls.length∧pl.Pairwise (· < ·):=by
 induction h with
 | fin a le h h0=>exact⟨by omega,by omega,(fun x hx=>by cases hx),Nat.le_refl _,.nil⟩
 | ptr a le ls pl en h h0 hp hr ih=>exact⟨by omega,by omega,(fun x hx=>by cases hx),Nat.zero_le _,.nil⟩
 | lab a le ls pl en h0 h1 h2 hr ih=>
  obtain⟨i1,i2,i3,i4,i5⟩:=ih;refine⟨by omega,i2,fun x hx=>?_,by simpa using i4,List.pairwise_cons.2 ⟨fun x hx=>by have:=i3 x hx;omega,i5⟩⟩
  rcases List.mem_cons.1 hx with rfl|hx
  ·omega
  ·have:=i3 x hx;omega
theorem eF.place{t:ByteArray}{a le:Nat}{ls:List ByteArray}{pl:List Int}{en:Nat}(h:eF t a le ls pl en): ∀ x∈pl,∃ ls1 ls2 pl',ls=ls1++ls2∧eF t x.toNat le ls2 pl' en:=by
 induction h with
 | fin a le h h0=>exact fun x hx=>by cases hx
 | ptr a le ls pl en h h0 hp hr ih=>exact fun x hx=>by cases hx
 | lab a le ls pl en h0 h1 h2 hr ih=>
  intro x hx
  rcases List.mem_cons.1 hx with rfl|hx
  ·exact⟨[],_,_,rfl,.lab a le ls pl en h0 h1 h2 hr⟩
  · obtain ⟨l1, l2, p', e, h'⟩ := ih x hx
    exact⟨mkB ((ew t a).map eq)::l1,l2,p',by rw[e];rfl,h'⟩
section
variable (s:ByteArray) (hs:s.size≤2000)
include hs
theorem jX{a le:Nat}{ls:List ByteArray}{pl:List Int}{en:Nat}(h:eF s a le ls pl en): ∀ (L:List ByteArray) (p:List Int) (e:Int),L.length+ls.length≤8→p.length≤L.length →
 Ev (fun k=>ac.l0 k s (a:Int) L p (le:Int) e) ((gi (L++ls)).1,(if e<0 then p++pl else p),(if e<0 then(en:Int)else e),(gi (L++ls)).2):=by
 induction h with
 | fin a le h h0=>
  intro L p e hL hp;have hi:=iO s hs 0 a L p le e h (by simp at hL;omega) h0;rw[List.append_nil,List.append_nil,ite_self];exact Ev.of (fun k=>(ac.mono_l k).1 _ _ _ _ _ _) hi
 | ptr a le ls pl en h h0 hp' hr ih=>
  intro L p e hL hp;have:=ih L p (dL e (a+2)) hL hp
  have he:¬ dL e (a+2)<0:=by unfold dL;split<;>omega
  rw[if_neg he,if_neg he]at this;rw[List.append_nil,ite_self]
  have e2:dL e (a+2)=if e<0 then((a+2:Nat):Int)else e:=rfl
  rw[e2]at this;exact Ev.step (fun k=>rfl) (Ev.step (g:=fun k=>ac.l0 (k+1) s (a:Int) L p (le:Int) e) (fun k=>(fh s hs k a L p le e (by omega) (by omega) h0 h).trans (if_neg (by omega))) this)
 | lab a le ls pl en h0 h1 h2 hr ih=>
  intro L p e hL hp;rw[List.length_cons]at hL;have:=ih (L ++ [mkB ((ew s a).map eq)]) (plc e p a) e (by simp;omega) (by unfold plc;split<;>simp<;>omega)
  have ep:(if e<0 then plc e p a++pl else plc e p a)=if e<0 then p++(a:Int)::pl else p:=by
   unfold plc
   split
   ·simp
   ·rfl
  rw[ep,List.append_assoc]at this;exact Ev.step (fun k=>rfl) (Ev.step (fun k=>rfl) (Ev.step (g:=fun k=>ac.l0 (k+2) s (a:Int) L p (le:Int) e) (fun k=>gH s hs k a L p le e (by omega) (by omega) (by omega) h0 h1 h2) this))
theorem iu: ∀ (n a:Nat) (L:List ByteArray) (p:List Int) (le:Nat) (e:Int),le*10+(9-L.length)≤n→L.length≤9→p.length≤L.length →
 (∃ ls pl en,eF s a le ls pl en∧L.length+ls.length≤8)∨∃ r,Ev (fun k=>ac.l0 k s (a:Int) L p (le:Int) e) r∧r.2.2.2=false
 | n,a,L,p,le,e,hn,hL,hp=>by
  by_cases ho:s.size≤a∨8<L.length
  ·exact .inr ⟨eX,Ev.of (fun k=>(ac.mono_l k).1 _ _ _ _ _ _) (iz s hs 0 a L p le e ho),rfl⟩
  · have h1 : a < s.size := by omega
    have h2:L.length≤8:=by omega
    by_cases v0:ba s a=0
    ·exact .inl ⟨[],[],a+1,.fin a le h1 v0,by simpa using h2⟩
    · by_cases v1 : 192 ≤ ba s a
      · by_cases h3 : a + 1 < s.size
        · by_cases hle : ((eb s a : Nat) : Int) ≥ (le : Int)
          ·exact .inr ⟨eX,Ev.of (fun k=>(ac.mono_l k).1 _ _ _ _ _ _) ((fh s hs 0 a L p le e h1 h2 v1 h3).trans (if_pos hle)),rfl⟩
          · rcases iu (n - 10) (eb s a) L p (eb s a) (dL e (a + 2)) (by omega) hL hp with ⟨ls, pl, en, g1, g2⟩ | ⟨r, g1, g2⟩
            ·exact .inl ⟨ls,[],a+2,.ptr a le ls pl en h3 v1 (by omega) g1,g2⟩
            ·exact .inr ⟨r,Ev.step (fun k=>rfl) (Ev.step (g:=fun k=>ac.l0 (k+1) s (a:Int) L p (le:Int) e) (fun k=>(fh s hs k a L p le e h1 h2 v1 h3).trans (if_neg hle)) g1),g2⟩
        ·exact .inr ⟨eX,Ev.of (fun k=>(ac.mono_l k).1 _ _ _ _ _ _) (fB s hs 0 a L p le e h1 h2 v1 (by omega)),rfl⟩
      · by_cases h3 : 64 ≤ ba s a ∨ s.size < a + 1 + ba s a
        ·exact .inr ⟨eX,Ev.of (fun k=>(ac.mono_l k).1 _ _ _ _ _ _) (fF s hs 0 a L p le e h1 h2 (by omega) (by omega) h3),rfl⟩
        · rcases iu (n - 1) (a + 1 + ba s a) (L ++ [mkB ((ew s a).map eq)]) (plc e p a) le e (by simp; omega) (by simp; omega) (by unfold plc; split <;> simp <;> omega) with ⟨ls, pl, en, g1, g2⟩ | ⟨r, g1, g2⟩
          ·exact .inl ⟨_,_,_,.lab a le ls pl en (by omega) (by omega) (by omega) g1,by simp at g2 ⊢;omega⟩
          ·exact .inr ⟨r,Ev.step (fun k=>rfl) (Ev.step (fun k=>rfl) (Ev.step (g:=fun k=>ac.l0 (k+2) s (a:Int) L p (le:Int) e) (fun k=>gH s hs k a L p le e h1 h2 (by omega) (by omega) (by omega) (by omega)) g1)),g2⟩
 termination_by n=>n
 decreasing_by all_goals omega
theorem sx{k a:Nat}{t:ByteArray×List Int×Int×Bool}(h:ac.f k s (a:Int)=some t)(ht:t.2.2.2=true): ∃ ls pl en,eF s a a ls pl en∧ls.length≤8∧gi ls=(t.1,true)∧t.2.1=pl∧t.2.2.1=(en:Int):=by
 have hE:Ev (fun k=>ac.l0 k s (a:Int) [] [] (a:Int) (-1)) t:=Ev.of (fun k=>(ac.mono_l k).1 _ _ _ _ _ _) (k:=k) h
 rcases iu s hs (a*10+9) a [] [] a (-1) (by simp) (by simp) (by simp)with⟨ls,pl,en,g1,g2⟩|⟨r,g1,g2⟩
 · have g3 := jX s hs g1 [] [] (-1) g2 (by simp)
   have e:=iX hE g3;rw[if_pos (by decide),if_pos (by decide),List.nil_append,List.nil_append]at e;refine⟨ls,pl,en,g1,by simpa using g2,?_,by rw[e],by rw[e]⟩;rw[e]at ht ⊢;exact Prod.ext rfl ht
 · rw [iX hE g1] at ht
   rw[ht]at g2;cases g2
end
theorem mR{x:List UInt8}(h:bH x=true): ∀ y∈x,y≠46:=by
 intro y hy e;subst e;unfold bH at h;simp only[Bool.or_eq_true,Bool.and_eq_true,beq_iff_eq,List.all_eq_true]at h
 rcases h with h|h
 · rw [h] at hy
   simp at hy
 ·exact absurd (h.2 46 hy) (by decide)
theorem oD{x:List UInt8}(h:bH x=true): x.map eq=x:=by
 have:∀ y∈x,eq y=y:=by
  intro y hy;unfold bH at h;simp only[Bool.or_eq_true,Bool.and_eq_true,beq_iff_eq,List.all_eq_true]at h
  rcases h with h|h
  · rw [h] at hy
    rw[List.mem_singleton.1 hy];decide
  · have hy := h.2 y hy
    unfold eH at hy;simp only[Bool.or_eq_true,decide_eq_true_eq,beq_iff_eq]at hy;unfold eq;rw[if_neg];rintro⟨h1,h2⟩
    rcases hy with((hy|hy)|rfl)|rfl
    ·omega
    ·omega
    ·revert h1;decide
    ·revert h2;decide
 rw[List.map_congr_left this,List.map_id']
theorem pz{ls:List ByteArray}(hne:ls≠[])(h:∀ x∈ls,bH x.data.toList=true): bC 46 (dF ls)=ls.map (·.data.toList):=by
 unfold dF
 refine kF _ (by simpa using hne) fun x hx=>?_
 obtain⟨z,hz,rfl⟩:=List.mem_map.1 hx;exact mR (h z hz)
theorem kP{x:List UInt8}(h:bH x=true): 1≤x.length:=by
 unfold bH at h;simp only[Bool.or_eq_true,Bool.and_eq_true,beq_iff_eq,decide_eq_true_eq]at h
 rcases h with h|h
 ·rw[h];simp
 ·exact h.1.1
theorem ml{ls:List ByteArray}{s:ByteArray}(h:gi ls=(s,true)): cO s.data.toList=true∧ls=(bG s.data.toList).map mkB:=by
 unfold gi at h
 by_cases h1:(decide (ls.length≤8)&&ls.all fun x=>bH x.data.toList)=true
 · rw [if_pos h1] at h
   by_cases h2:cO (dF ls)=true
   · rw [if_pos h2] at h
     obtain⟨rfl,_⟩:=Prod.mk.inj h;rw[cn];refine⟨h2,?_⟩;simp only[Bool.and_eq_true,List.all_eq_true]at h1
     cases ls with
     | nil=>rfl
     | cons x r=>
      have hs:=pz (ls:=x::r) (by simp) h1.2
      have hne:dF (x::r)≠[]:=by
       intro e;have h3:=congrArg List.length e;unfold dF at h3;rw[List.map_cons,Lib.join_cons,List.length_append]at h3;have:=kP (h1.2 x List.mem_cons_self);rw[List.length_nil]at h3;omega
      unfold bG;rw[if_neg hne,hs,List.map_map]
      have:(mkB ∘ fun x:ByteArray=>x.data.toList)=id:=by funext z;exact fJ z
      rw[this,List.map_id]
   · rw [if_neg h2] at h
     cases (Prod.mk.inj h).2
 · rw [if_neg h1] at h
   cases (Prod.mk.inj h).2
theorem o_{s:List UInt8}(h:cO s=true): (bG s).length≤8∧∀ x∈bG s,bH x=true:=by
 unfold cO at h;simp only[Bool.and_eq_true,decide_eq_true_eq,List.all_eq_true]at h;exact h.2
theorem m_(s:ByteArray)(hs:s.size<4611686018427387904): ∃ q2 q3,cy.f s (⟨#[46]⟩:ByteArray)=some (mkB ((bC 46 s.data.toList).headD []),q2,q3):=by
 unfold cy.f cX.f aV.f;rw[if_pos (show(⟨#[46]⟩:ByteArray).size=1 from rfl)];simp only[Option.bind_some];rw[show List.headD (⟨#[46]⟩:ByteArray).data.toList 0=46 from rfl,show(⟨#[46]⟩:ByteArray).size=1 from rfl]
 rcases eK 46 s.data.toList with⟨h1,h2⟩|⟨p,r,h1,h2,h3⟩
 · rw [h1, if_neg (by omega), el _ _ h2]
   exact⟨_,_,by show some (s,_,_)=some (mkB s.data.toList,_,_);rw[fJ]⟩
 · have hl : p.length + (r.length + 1) = s.size := by rw [aU, h1]; simp
   rw[h3,show(((1:Nat):Int))=1 from rfl,d_ (by omega),if_pos (by omega),if_pos (by omega),if_pos (by omega),if_pos (by omega),if_pos (by omega),Int.toNat_natCast,Int.toNat_natCast,fE];refine⟨s.extract (p.length+1) s.size,true,?_⟩
   have e:(s.data.toList.drop 0).take (p.length-0)=(bC 46 s.data.toList).headD []:=by
    rw[h1,dM 46 p r h2];simp
   rw[e];rfl
theorem rF(q:Nat)(h:q<2000): wrap64 (192+wrap64 (Int.tdiv (q:Int) 256))%256=((192+q / 256:Nat):Int):=by
 rw[Int.tdiv_eq_ediv_of_nonneg (by omega)]
 have h1:wrap64 ((q:Int) / 256)=((q / 256:Nat):Int):=by unfold wrap64;omega
 rw[h1]
 have h2:wrap64 (192+((q / 256:Nat):Int))=((192+q / 256:Nat):Int):=by unfold wrap64;omega
 rw[h2];omega
theorem hY(x y:ByteArray)(n i:Nat)(hn:x.size=n)(hi:i<y.data.toList.length): ba (x++y) (n+i)=(y.data.toList[i]).toNat:=by
 subst hn
 have hl0:(x++y).data.toList=x.data.toList++y.data.toList:=by simp
 have e2:x.size+i<(x++y).data.toList.length:=by rw[hl0,List.length_append,← aU];omega
 unfold ba;rw[eS _ _ e2,Int.toNat_natCast]
 have e4:(x++y).data.toList[x.size+i]=y.data.toList[i]:=by
  simp only[hl0];rw[List.getElem_append_right (by rw[← aU];omega)]
  congr 1
  rw[← aU];omega
 rw[e4]
theorem qM(b ahead rest:ByteArray)(hb:b.size≤2000)(q:Nat)(hq:q<b.size)(hpos:0<rest.size)(ls:List ByteArray)(pl:List Int)(en:Nat)(g1:eF b q q ls pl en):
 ∃ y pl',(b++ahead)++strOfNums [wrap64 (192+wrap64 (Int.tdiv (q:Int) 256))%256,(q:Int)%256]=(b++ahead)++y∧eF ((b++ahead)++strOfNums [wrap64 (192+wrap64 (Int.tdiv (q:Int) 256))%256,(q:Int)%256]) (b.size+ahead.size) b.size ls pl' ((b++ahead)++strOfNums [wrap64 (192+wrap64 (Int.tdiv (q:Int) 256))%256,(q:Int)%256]).size∧y.size≤rest.size+(if rest.size=0 then 1 else 2):=by
 have ew2:(q:Int)%256=((q%256:Nat):Int):=by omega
 rw[rF q (by omega),ew2]
 have hy2:(strOfNums [((192+q / 256:Nat):Int),((q%256:Nat):Int)]).data.toList=[UInt8.ofNat (192+q / 256),UInt8.ofNat (q%256)]:=by
  rw[strOfNums_data];simp only[List.map_cons,List.map_nil,Int.toNat_natCast]
 have hys:(strOfNums [((192+q / 256:Nat):Int),((q%256:Nat):Int)]).size=2:=by rw[strOfNums_size];rfl
 generalize strOfNums [((192+q / 256:Nat):Int),((q%256:Nat):Int)]=y at hy2 hys
 have hsz:((b++ahead)++y).size=b.size+ahead.size+2:=by rw[ByteArray.size_append,ByteArray.size_append,hys]
 have h0:=hY (b++ahead) y (b.size+ahead.size) 0 ByteArray.size_append (by rw[hy2];simp);have h1:=hY (b++ahead) y (b.size+ahead.size) 1 ByteArray.size_append (by rw[hy2];simp);simp only[hy2,List.getElem_cons_zero,List.getElem_cons_succ,UInt8.toNat_ofNat',Nat.add_zero]at h0 h1
 have hb0:ba ((b++ahead)++y) (b.size+ahead.size)=192+q / 256:=by rw[h0];omega
 have hb1:ba ((b++ahead)++y) (b.size+ahead.size+1)=q%256:=by rw[h1];omega
 have hptr:eb ((b++ahead)++y) (b.size+ahead.size)=q:=by
  unfold eb;rw[hb0,hb1];omega
 refine⟨y,[],rfl,?_,?_⟩
 · rw [hsz]
   have g5:=g1.app (ahead++y);rw[← ByteArray.append_assoc]at g5;exact .ptr _ _ _ pl en (by omega) (by omega) (by rw[hptr];omega) (by rw[hptr];exact g5)
 ·rw[hys,if_neg (by omega)];omega
theorem oQ(b:ByteArray)(hb:b.size≤2000)(places:List Int)(hr:∀ x∈places,0≤x∧x<(b.size:Int)): ∀ (k:Nat) (ahead rest r:ByteArray),bD.l0 k b places ahead rest=some r→cO rest.data.toList=true →
 ∃ y pl,r=(b++ahead)++y∧eF r (b.size+ahead.size) b.size ((bG rest.data.toList).map mkB) pl r.size∧y.size≤rest.size+(if rest.size=0 then 1 else 2):=by
 intro k
 induction k with
 | zero=>intro ahead rest r h;simp[bD.l0]at h
 | succ k ih=>
  intro ahead rest r h hg;unfold bD.l0 at h
  by_cases c1:rest.toList=([]:List UInt8)
  · rw [if_pos c1] at h
    by_cases c2:b.size+ahead.size<1099511627776
    · rw [if_pos c2] at h
      obtain rfl:=Option.some.inj h
      have e0:rest.data.toList=[]:=by rw[← Lib.toList_data];exact c1
      have hz:rest.size=0:=by rw[aU,e0];rfl
      have hsz:((b++ahead)++(⟨#[0]⟩:ByteArray)).size=b.size+ahead.size+1:=by rw[ByteArray.size_append,ByteArray.size_append];rfl
      refine⟨(⟨#[0]⟩:ByteArray),[],rfl,?_,?_⟩
      · rw [hsz, e0]
        refine .fin _ _ (by omega) ?_
        have e2:b.size+ahead.size<((b++ahead)++(⟨#[0]⟩:ByteArray)).data.toList.length:=by rw[← aU];omega
        unfold ba;rw[eS _ _ e2]
        have e3:((b++ahead)++(⟨#[0]⟩:ByteArray)).data.toList=(b++ahead).data.toList ++ [0]:=by simp
        have e4:((b++ahead)++(⟨#[0]⟩:ByteArray)).data.toList[b.size+ahead.size]=0:=by
         simp only[e3];rw[List.getElem_append_right (by rw[← aU,ByteArray.size_append];omega)];simp
        rw[e4];rfl
      ·rw[hz];exact Nat.le_refl _
    ·rw[if_neg c2]at h;cases h
  · rw [if_neg c1] at h
    have hne:rest.data.toList≠[]:=by rw[← Lib.toList_data];exact c1
    have hpos:0<rest.size:=by rw[aU];exact List.length_pos_iff.2 hne
    by_cases c2:ke k b places=true
    · rw [if_pos c2] at h
      by_cases c3:0≤dS (ff k b rest) places 0
      · rw [if_pos c3] at h
        by_cases c4:b.size+ahead.size<1099511627776
        · rw [if_pos c4] at h
          obtain rfl:=Option.some.inj h;have hil:=nX (ff k b rest) places
          have hx:∃ x∈places,rd places (dS (ff k b rest) places 0)=x∧ff k b rest x=true:=by
           have:∀ (xs:List Int) (i:Int),0≤i→0≤dS (ff k b rest) xs i→i≤dS (ff k b rest) xs i∧∃ h:(dS (ff k b rest) xs i-i).toNat<xs.length,ff k b rest (xs[(dS (ff k b rest) xs i-i).toNat])=true:=by
            intro xs
            induction xs with
            | nil=>intro i hi h0;simp[dS]at h0
            | cons x r ih2=>
             intro i hi h0;unfold dS at h0 ⊢
             by_cases hq:ff k b rest x=true
             · simp only [if_pos hq] at h0 ⊢
               refine⟨Int.le_refl _,by simp,?_⟩
               simpa using hq
             · simp only [if_neg hq] at h0 ⊢
               obtain⟨j1,j2,j3⟩:=ih2 (i+1) (by omega) h0
               have e:(dS (ff k b rest) r (i+1)-i).toNat=(dS (ff k b rest) r (i+1)-(i+1)).toNat+1:=by omega
               refine⟨by omega,by rw[e,List.length_cons];omega,?_⟩;simp only[e,List.getElem_cons_succ];exact j3
           obtain⟨_,j2,j3⟩:=this places 0 (by omega) c3;rw[Int.sub_zero]at j2
           have e3:ff k b rest (places[(dS (ff k b rest) places 0).toNat]'j2)=true:=by
            have:=j3;simp only[Int.sub_zero]at this;exact this
           refine⟨_,List.getElem_mem j2,?_,e3⟩;unfold rd;rw[List.getD_eq_getElem?_getD,List.getElem?_eq_getElem j2];rfl
          obtain⟨x,hxm,hxr,hxp⟩:=hx;rw[hxr];obtain⟨hx0,hx1⟩:=hr x hxm;obtain⟨q,rfl⟩:∃ q:Nat,x=(q:Int):=⟨x.toNat,by omega⟩;have hty:=List.all_eq_true.1 c2 (q:Int) hxm;obtain⟨t,ht⟩:=Option.isSome_iff_exists.1 hty;unfold ff at hxp;rw[ht]at hxp;simp only[Bool.and_eq_true,beq_iff_eq]at hxp;obtain⟨ls,pl,en,g1,g2,g3,_,_⟩:=sx b hb ht hxp.1;have e1:t.1=rest:=fK (by rw[← Lib.toList_data,← Lib.toList_data];exact hxp.2);rw[e1]at g3;obtain⟨_,g4⟩:=ml g3;rw[g4]at g1;exact qM b ahead rest hb q (by omega) hpos _ _ _ g1
        ·rw[if_neg c4]at h;cases h
      · rw [if_neg c3] at h
        obtain⟨c,hc,h⟩:=Option.bind_eq_some_iff.mp h;obtain⟨q2,q3,hcut⟩:=m_ rest (by have:=ec hg;rw[← aU]at this;omega);rw[hcut]at hc;obtain rfl:=Option.some.inj hc;simp only at h
        by_cases c4:ahead.size+(mkB ((bC 46 rest.data.toList).headD [])).size<1099511627776
        · rw [if_pos c4] at h
          obtain⟨par,hpar,h⟩:=Option.bind_eq_some_iff.mp h;rw[ig rest (by have:=ec hg;rw[← aU]at this;omega)]at hpar;obtain rfl:=Option.some.inj hpar
          have hsp:bG rest.data.toList=bC 46 rest.data.toList:=by unfold bG;rw[if_neg hne]
          have hgl:=o_ hg;rw[hsp]at hgl
          have hcons:∃ p,bC 46 rest.data.toList=p::bG (fx rest.data.toList)∧rest.size=p.length+(if fx rest.data.toList=[]then 0 else(fx rest.data.toList).length+1):=by
           rcases eK 46 rest.data.toList with⟨_,h1⟩|⟨p,r,h1,h2,_⟩
           · refine ⟨rest.data.toList, ?_, ?_⟩
             ·rw[g_ _ h1,el _ _ h1];rfl
             ·rw[g_ _ h1,if_pos rfl,aU];omega
           · have hpr : fx rest.data.toList = r := by rw [h1]; exact jG p r h2
             have hsl:bC 46 rest.data.toList=p::bC 46 r:=by rw[h1];exact dM 46 p r h2
             have hrn:r≠[]:=by
              rintro rfl;have:=hgl.2 [] (by rw[hsl];simp[bC])
              revert this
              decide
             refine⟨p,?_,?_⟩
             ·rw[hsl,hpr];unfold bG;rw[if_neg hrn]
             ·rw[hpr,if_neg hrn,aU,h1];simp
          obtain⟨p,hp,hsz0⟩:=hcons;rw[hp]at h c4 hgl;simp only[List.headD_cons]at h c4;have hpl:=hgl.2 p List.mem_cons_self;have hp1:=kP hpl;have hp2:=fM hpl
          have hgp:cO (fx rest.data.toList)=true:=by
           have hps:=ec hg;unfold cO;simp only[Bool.and_eq_true,decide_eq_true_eq,List.all_eq_true];have:=jO rest.data.toList;rw[List.length_cons]at hgl;exact⟨by omega,by omega,fun z hz=>hgl.2 z (List.mem_cons_of_mem _ hz)⟩
          have hl1:strOfNums [((mkB p).size:Int)%256]=mkB [UInt8.ofNat p.length]:=by
           refine fK ?_
           rw[strOfNums_data,cn,cF];simp only[List.map_cons,List.map_nil];rw[show((p.length:Int)%256).toNat=p.length by omega]
          rw[hl1]at h;obtain⟨y,pl,g1,g2,g3⟩:=ih (ahead++(mkB [UInt8.ofNat p.length]++mkB p)) (mkB (fx rest.data.toList)) r h (by rw[cn];exact hgp);rw[cn]at g2
          have hasz:(ahead++(mkB [UInt8.ofNat p.length]++mkB p)).size=ahead.size+(1+p.length):=by rw[ByteArray.size_append,ByteArray.size_append,cF,cF];rfl
          rw[hasz]at g2
          have hrl:r.data.toList=(b++ahead).data.toList++(UInt8.ofNat p.length::(p++y.data.toList)):=by
           rw[g1];simp[mkB]
          have hlen:(b++ahead).data.toList.length=b.size+ahead.size:=by rw[← aU,ByteArray.size_append]
          have hrs:r.size=b.size+ahead.size+(1+(p.length+y.size)):=by
           rw[aU,hrl,List.length_append,hlen,List.length_cons,List.length_append,← aU];omega
          have hb0:ba r (b.size+ahead.size)=p.length:=by
           have e2:b.size+ahead.size<r.data.toList.length:=by rw[← aU];omega
           unfold ba;rw[eS _ _ e2]
           have e4:r.data.toList[b.size+ahead.size]=UInt8.ofNat p.length:=by
            simp only[hrl];rw[List.getElem_append_right (by omega)];simp[hlen]
           rw[e4,Int.toNat_natCast,UInt8.toNat_ofNat'];omega
          have hraw:ew r (b.size+ahead.size)=p:=by
           unfold ew;rw[hb0,hrl,show b.size+ahead.size+1=(b++ahead).data.toList.length+1 by omega,List.drop_append];rw[List.drop_of_length_le (by omega),List.nil_append,Nat.add_sub_cancel_left,List.drop_one,List.tail_cons,List.take_append_of_le_length (Nat.le_refl _),List.take_length]
          refine⟨mkB [UInt8.ofNat p.length]++mkB p++y,((b.size+ahead.size:Nat):Int)::pl,?_,?_,?_⟩
          · rw [g1]
            simp only[ByteArray.append_assoc]
          · rw [hsp, hp, List.map_cons]
            have:=eF.lab (t:=r) (b.size+ahead.size) b.size _ pl r.size (by omega) (by omega) (by omega) (by rw[hb0,show b.size+ahead.size+1+p.length=b.size+(ahead.size+(1+p.length)) by omega];exact g2);rw[hraw,oD hpl]at this;exact this
          · rw [ByteArray.size_append, ByteArray.size_append, cF, cF, if_neg (by omega)]
            rw[cF]at g3;rw[List.length_singleton]
            by_cases hpn:fx rest.data.toList=[]
            · rw [if_pos hpn] at hsz0
              rw[hpn]at g3;simp at g3;omega
            · rw [if_neg hpn] at hsz0
              have:0<(fx rest.data.toList).length:=List.length_pos_iff.2 hpn;rw[if_neg (by omega)]at g3;omega
        ·rw[if_neg c4]at h;cases h
    ·rw[if_neg c2]at h;cases h
end Go.Proofs.YtiegkjimpclmaaaGreatDoor.Pure
namespace Go.Proofs.YtiegkjimpclmaaaGreatDoor.Pure
open Go.Proofs.YtiegkjimpclmaaaGreatDoor.P
theorem i_(x0:List da)(l:List da)(hl:l.length<1099511627776)(hs:∀ y∈l,dG y.f0∧dG y.f3): ∀ (m i:Nat),i+m=l.length →
 ∃ g:Bool,Ev (fun k=>bS.l0 k x0 l (l.length:Int) (i:Int)) (g&&decide ((x0.length:Int)≤12))∧Ev (fun k=>bJ.f k (l.drop i)) g
 | 0,i,hi=>by
  refine⟨true,Ev.step (f:=fun _=>some (decide ((x0.length:Int)≤12))) (fun k=>?_) (Ev.now _),?_⟩
  · show bS.l0 (k + 1) x0 l (l.length : Int) (i : Int) = _
    rw[bS.l0,if_neg (by omega)]
  · rw [List.drop_of_length_le (by omega)]
    exact Ev.congr (fun k=>rfl) (Ev.now _)
 | m+1,i,hi=>by
  have hlt:i<l.length:=by omega
  have hw:wrap64 ((i:Int)+1)=((i+1:Nat):Int):=d_ (by omega);have hx:=hs _ (List.getElem_mem hlt);obtain⟨r,_,r1,r2,_⟩:=fj l[i].f0 l[i].f1 l[i].f2 l[i].f3 hx.1 hx.2;obtain⟨g,g1,g2⟩:=i_ x0 l hl hs m (i+1) (by omega)
  have es:∀ k,bS.l0 (k+1) x0 l (l.length:Int) (i:Int)=(cf.f k l[i].f0 l[i].f1 l[i].f2 l[i].f3).bind fun g0=>(if g0=true then(bS.l0 k x0 l (l.length:Int) ((i+1:Nat):Int))else(some false)):=fun k=>by
   rw[bS.l0,if_pos (by omega),if_pos (by omega),if_pos (by omega),rdI l i hlt,hw]
  have ei:∀ k,bJ.f k (l.drop i)=(bW.f k l[i].f0 l[i].f1 l[i].f2 l[i].f3).bind fun g=>(if g=true then bJ.f k (l.drop (i+1))else some false):=fun k=>by
   rw[List.drop_eq_getElem_cons hlt];rfl
  cases r with
  | true=>
   refine⟨g,Ev.step es (Ev.bind r1 ?_),Ev.congr ei (Ev.bind r2 ?_)⟩
   ·simp only[if_true];exact g1
   ·simp only[if_true];exact g2
  | false=>exact⟨false,Ev.step es (Ev.bind r1 (Ev.now _)),Ev.congr ei (Ev.bind r2 (Ev.now _))⟩
theorem lU(L:List Int)(n:Int)(hl:L.length<1099511627776): ∀ (m i:Nat),i+m=L.length→Ev (fun k=>cI.l0 k n L (L.length:Int) (i:Int)) ((L.drop i).contains n)
 | 0,i,hi=>by
  rw[List.drop_of_length_le (by omega)];refine Ev.step (f:=fun _=>some false) (fun k=>?_) (Ev.now _);show cI.l0 (k+1) n L (L.length:Int) (i:Int)=_;rw[cI.l0,if_neg (by omega)]
 | m+1,i,hi=>by
  have hlt:i<L.length:=by omega
  have hw:wrap64 ((i:Int)+1)=((i+1:Nat):Int):=d_ (by omega)
  have hr:rd L (i:Int)=L[i]:=by
   unfold rd;rw[Int.toNat_natCast,List.getD_eq_getElem?_getD,List.getElem?_eq_getElem hlt,Option.getD_some]
  have ih:=lU L n hl m (i+1) (by omega);rw[List.drop_eq_getElem_cons hlt,List.contains_cons]
  by_cases c:L[i]=n
  · rw [show (n == L[i]) = true from beq_iff_eq.2 c.symm, Bool.true_or]
    refine Ev.step (f:=fun _=>some true) (fun k=>?_) (Ev.now _);show cI.l0 (k+1) n L (L.length:Int) (i:Int)=_;rw[cI.l0,if_pos (by omega),if_pos (by omega),if_pos (by omega),hr,if_pos c]
  · rw [show (n == L[i]) = false from beq_eq_false_iff_ne.2 fun e => c e.symm, Bool.false_or]
    refine Ev.step (f:=fun k=>cI.l0 k n L (L.length:Int) ((i+1:Nat):Int)) (fun k=>?_) ih;show cI.l0 (k+1) n L (L.length:Int) (i:Int)=_;rw[cI.l0,if_pos (by omega),if_pos (by omega),if_pos (by omega),hr,if_neg c,hw]
theorem qm(L:List Int)(n:Int)(hl:L.length<1099511627776): Ev (fun k=>cI.f k L n) (L.contains n):=Ev.congr (fun k=>rfl) (lU L n hl L.length 0 (by omega))
theorem mw(L:List Int)(n:Int)(hl:L.length<1099511627776): ∀ (m i:Nat),i+m=L.length→∃ t,Ev (fun k=>bm.l0 k L n (L.length:Int) (i:Int)) t∧decide (t≥0)=(L.drop i).contains n
 | 0,i,hi=>by
  rw[List.drop_of_length_le (by omega)];refine⟨-1,Ev.step (f:=fun _=>some (-1)) (fun k=>?_) (Ev.now _),rfl⟩;show bm.l0 (k+1) L n (L.length:Int) (i:Int)=_;rw[bm.l0,if_neg (by omega)]
 | m+1,i,hi=>by
  have hlt:i<L.length:=by omega
  have hw:wrap64 ((i:Int)+1)=((i+1:Nat):Int):=d_ (by omega)
  have hr:rd L (i:Int)=L[i]:=by
   unfold rd;rw[Int.toNat_natCast,List.getD_eq_getElem?_getD,List.getElem?_eq_getElem hlt,Option.getD_some]
  obtain⟨t,e,ht⟩:=mw L n hl m (i+1) (by omega);rw[List.drop_eq_getElem_cons hlt,List.contains_cons]
  by_cases c:n=L[i]
  · rw [show (n == L[i]) = true from beq_iff_eq.2 c, Bool.true_or]
    refine⟨(i:Int),Ev.step (f:=fun _=>some (i:Int)) (fun k=>?_) (Ev.now _),decide_eq_true (by omega)⟩;show bm.l0 (k+1) L n (L.length:Int) (i:Int)=_;rw[bm.l0,if_pos (by omega),if_pos (by omega),if_pos (by omega),hr,if_pos c]
  · rw [show (n == L[i]) = false from beq_eq_false_iff_ne.2 c, Bool.false_or]
    refine⟨t,Ev.step (f:=fun k=>bm.l0 k L n (L.length:Int) ((i+1:Nat):Int)) (fun k=>?_) e,ht⟩;show bm.l0 (k+1) L n (L.length:Int) (i:Int)=_;rw[bm.l0,if_pos (by omega),if_pos (by omega),if_pos (by omega),hr,if_neg c,hw]
theorem jm(L:List Int)(n:Int)(hl:L.length<1099511627776): Ev (fun k=>cA.f k L n) (L.contains n):=by
 obtain⟨t,e,ht⟩:=mw L n hl L.length 0 (by omega);have ht:decide (t≥0)=L.contains n:=ht;refine Ev.congr (fun k=>rfl) (Ev.bind (a:=t) (Ev.congr (fun k=>rfl) e) ?_);rw[ht];exact Ev.now _
theorem fv{f g:Nat→Option Bool}{b r:Bool}(h:Ev f b)(hg:Ev g r): Ev (fun k=>(f k).bind fun t=>if t=true then g k else some false) (b&&r):=by
 refine Ev.bind h ?_
 cases b with
 | true=>simp only[if_true,Bool.true_and];exact hg
 | false=>exact Ev.now _
theorem rl{n:Int}{g:Nat→Option Bool}{r:Bool}(hg:Ev g r): Ev (fun k=>if n>12 then some false else g k) (decide (n≤12)&&r):=by
 by_cases h:n>12
 · rw [decide_eq_false (by omega), Bool.false_and]
   simp only[if_pos h];exact Ev.now _
 · rw [decide_eq_true (by omega), Bool.true_and]
   simp only[if_neg h];exact hg
def kO(id:Int)(re cu:Bool)(co:Int)(nm:List UInt8)(ty:Int)(n6 n7:Int)(g6 g7:Bool): Bool:=
 decide (0≤id∧id≤65535)&&(([0,1,3,5]:List Int).contains co&&(cO nm&&(([1,2,5,6,15,16]:List Int).contains ty&&((g6&&decide (n6≤12))&&((g7&&decide (n7≤12))&&(if re=true then true else(if cu=true then false else(if co=0 then(if n6=0 then n7==0 else false)else false))))))))
theorem nE(re cu:Bool)(co n6 n7:Int): Ev (fun _=>(if re=true then(some true)else(if cu=true then(some false)else(if co=0 then(if n6=0 then(some (n7==0))else(some false))else(some false))))) (if re=true then true else(if cu=true then false else(if co=0 then(if n6=0 then n7==0 else false)else false))):=by
 refine Ev.congr (f:=fun _=>some (if re=true then true else(if cu=true then false else(if co=0 then(if n6=0 then n7==0 else false)else false)))) (fun k=>?_) (Ev.now _)
 split
 ·rfl
 · split
   ·rfl
   · split
     ·split<;>rfl
     ·rfl
theorem gP(id:Int)(re cu:Bool)(co:Int)(nm:ByteArray)(ty:Int)(l6 l7:List da)(hn:dG nm)(h6:l6.length≤1048576)(h7:l7.length≤1048576)(s6:∀ y∈l6,dG y.f0∧dG y.f3)(s7:∀ y∈l7,dG y.f0∧dG y.f3):
 ∃ g6 g7:Bool,Ev (fun k=>bJ.f k l6) g6∧Ev (fun k=>bJ.f k l7) g7∧Ev (fun k=>bK.f k id re cu co nm ty l6 l7) (kO id re cu co nm.data.toList ty l6.length l7.length g6 g7)∧Ev (fun k=>cw.f k id re cu co nm ty l6 l7) (kO id re cu co nm.data.toList ty l6.length l7.length g6 g7):=by
 obtain⟨g6,a6,b6⟩:=i_ l6 l6 (by omega) s6 l6.length 0 (by omega);obtain⟨g7,a7,b7⟩:=i_ l7 l7 (by omega) s7 l7.length 0 (by omega);rw[List.drop_zero]at b6 b7;refine⟨g6,g7,b6,b7,?_,?_⟩
 ·refine Ev.congr (fun k=>rfl) (fv (Ev.congr (fun k=>dA _ _ _) (Ev.now _)) (fv (qm _ _ (by decide)) (fv (gS nm (by unfold dG at hn;omega)) (fv (Ev.congr (fun k=>rfl) (Ev.bind (qm _ _ (by decide)) (Ev.now _))) (fv (Ev.congr (fun k=>rfl) a6) (fv (Ev.congr (fun k=>rfl) a7) (nE _ _ _ _ _)))))))
 · have h := fv (f := fun k => cx.f id 0 65535) (Ev.congr (fun k => eZ _ _ _) (Ev.now _)) (fv (f := fun k => fe.f k co) (Ev.congr (fun k => rfl) (Ev.bind (jm _ _ (by decide)) (Ev.now _))) (fv (f := fun k => cg.f nm) (Ev.congr (fun k => rfl) (Ev.now (cO nm.data.toList))) (fv (f := fun k => fa.f k ty) (Ev.congr (fun k => rfl) (Ev.bind (jm _ _ (by decide)) (Ev.now _))) (rl (n := (l6.length : Int)) (rl (n := (l7.length : Int)) (fv b6 (fv b7 (nE re cu co l6.length l7.length))))))))
   have h2:=Ev.congr (g:=fun k=>cw.f k id re cu co nm ty l6 l7) (fun k=>rfl) h;refine Eq.mp (congrArg (Ev _) ?_) h2;unfold kO;generalize (if re=true then true else(if cu=true then false else(if co=0 then(if((l6.length:Int))=0 then((l7.length:Int)==0)else false)else false)))=F;generalize decide ((l6.length:Int)≤12)=x6;generalize decide ((l7.length:Int)≤12)=x7
   cases g6<;>cases g7<;>cases x6<;>cases x7<;>simp
theorem pU(a b:Int): or2 a b=0↔a=0∧b=0:=by
 unfold or2
 by_cases h:a=0
 ·rw[if_pos h];exact⟨fun e=>⟨h,e⟩,fun e=>e.2⟩
 ·rw[if_neg h];exact⟨fun e=>absurd e h,fun e=>absurd e.1 h⟩
theorem oU(a b:Int): jV a b=0↔a=b:=by
 unfold jV
 by_cases h:a<b
 ·rw[if_pos h];omega
 · rw [if_neg h]
   by_cases h2:b<a
   ·rw[if_pos h2];omega
   ·rw[if_neg h2];omega
end Go.Proofs.YtiegkjimpclmaaaGreatDoor.Pure

