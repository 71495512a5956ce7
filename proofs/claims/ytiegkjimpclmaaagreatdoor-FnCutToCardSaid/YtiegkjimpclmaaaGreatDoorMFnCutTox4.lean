/- FnCutTo: part 5 of 17 of my texts for this claim, joined; the theorem stands in the last. Conditions: none beyond the statement's. -/
import Derived.Test.YtiegkjimpclmaaaGreatDoorMFnCutTox3
open Go.RowKit Go.Proofs.YtiegkjimpclmaaaGreatDoorW.PrintWords Go.Proofs.YtiegkjimpclmaaaGreatDoorW.PrintLast Go.Proofs.YtiegkjimpclmaaaGreatDoorW.PrintMore
set_option linter.unusedVariables false
set_option linter.unusedSimpArgs false
set_option maxHeartbeats 8000000
set_option maxRecDepth 100000
namespace Go.Proofs.YtiegkjimpclmaaaGreatDoor.P
attribute [local go_sem] cG cD c_ cZ ci ch cE cH
mutual
def bB.l0: Nat→List (S45)→Int→Int→Option ((List (S45)))
 | 0,_,_,_=>none
 | k+1,x0,x3,x4=>if x4>0 then(if 0≤(wrap64 (x4-1))then(if(wrap64 (x4-1))<(x0.length:Int)then(if 0≤x3 then(if x3<(x0.length:Int)then(if((ae x0 (wrap64 (x4-1))).f0).toList=((ae x0 x3).f0).toList then(bB.j1 k x0 x3 x4 (((ae x0 (wrap64 (x4-1))).f1)==((ae x0 x3).f1)))else(bB.j1 k x0 x3 x4 false))else(none))else(none))else(none))else(none))else(bB.j1 k x0 x3 x4 false)
def bB.j1: Nat→List (S45)→Int→Int→Bool→Option ((List (S45)))
 | 0,_,_,_,_=>none
 | k+1,x0,x3,x4,g2=>if g2=true then(bB.l0 k x0 x3 (wrap64 (x4-1)))else((some (([]:List (S45)):List (S45))).bind fun g0=>(if 0≤x4 then(if x4≤(x0.length:Int)then((some (x0.take (x4:Int).toNat:List (S45))).bind fun g1=>(if g0.length+g1.length<2932031007402 then(some (g0++g1))else(none)))else(none))else(none)))
end
def bB.f(k:Nat)(l0:List (S45)): Option ((List (S45))):=bB.l0 k l0 (wrap64 ((l0.length:Int)-1)) (wrap64 ((l0.length:Int)-1))
theorem bB.c(k:Nat)(A0:Option Addr)(c0:Nat)(l0:List (S45))(r:List (S45))(w:World)(hr0:Kd.C k45 w A0 l0.length l0)(hc0:l0.length≤c0)(h:bB.f k l0=some r):
 Calls Tryz.prog 104 #[.slice A0 l0.length c0] w fun e w'=> ∃ v0_:Value,e = .returned (v0_)∧Kd.R k45 45 w' w.heap.size (fun _=>True) v0_ r∧Below w.heap.size w w':=by
 have HR0:=a0_ hr0;have HC0:=a0_ hc0;clear hr0 hc0;have HB:=a0_ (Below.refl w.heap.size w);have H:=h;clear h;unfold bB.f at H;have H':=a0_ H;clear H;go_enter Tryz.func104,Tryz.ntmps104;go_wp2
 repeat(go_quiet (fail);try go_wp2)
 go_loopg [4] k (fun kq v4 w'=> ∃ (x4_1:Int),v4 = .int .i64 x4_1∧ab (bB.l0 kq l0 (wrap64 ((l0.length:Int)-1)) x4_1=some r)∧ab (kq≤k)∧ab (Below w.heap.size w w'))
 case atStart=>exact⟨(wrap64 ((l0.length:Int)-1)),rs_,H',⟨Nat.le_refl _⟩,⟨ay⟩⟩
 case round=>
  clear H';obtain⟨x4_1,rfl,HA,HK1,HB⟩:=hrel
  cases gk with
  | zero=>exact absurd HA.out (by simp[bB.l0])
  | succ k1=>
   have H:=HA.out;clear HA;simp only[bB.l0]at H;have HC2:=a0_ H;clear H;go_upto_region 3 with(fail)
   repeat(go_quiet (fail);go_upto_region 3 with(fail))
   go_cut [38] (fun f6 wc=> ∃ (kq:Nat) (j0:Bool),f6 = .bool j0∧ab (bB.j1 kq l0 (wrap64 ((l0.length:Int)-1)) x4_1 j0=some r)∧ab (kq≤k1)∧ab (Below w.heap.size w wc))
   case first=>
    have H:=HC2.out;clear HC2
    by_cases c3:x4_1>0
    case neg=>
     rw[if_neg c3]at H;have c3b0:=decide_eq_false c3;clear c3
     (first|rw[c3b0]|(simp only[bu,bI];rw[c3b0])|skip)
     have H':=a0_ H;clear H;go_wp2
     repeat(go_quiet (fail);try go_wp2)
     (try rw[← hji4]);(try rw[← hji7]);skip
     go_meet
     case rel=>exact⟨_,(false),rs_,(by first|exact H'|(rw[hji4];exact H')|(rw[hji7];exact H')),jl_ HK1,⟨ay⟩⟩
    rw[if_pos c3]at H;have c3b0:=decide_eq_true c3;clear c3
    (first|rw[c3b0]|(simp only[bu,bI];rw[c3b0])|skip)
    obtain⟨ji4,hji4⟩:∃ j_:Int,(wrap64 (x4_1-1))=j_:=⟨_,rfl⟩
    (first|rw[hji4]at H|simp only[hji4]at H)
    have hji4w:(IntKind.i64.wrap (x4_1-1))=ji4:=(bu _).trans hji4
    by_cases c5:0≤(ji4)
    case neg=>
     rw[if_neg c5]at H;exact absurd H (by simp)
    rw[if_pos c5]at H;have c5b0:=decide_eq_true c5;clear c5
    by_cases c6:(ji4)<(l0.length:Int)
    case neg=>
     rw[if_neg c6]at H;exact absurd H (by simp)
    rw[if_pos c6]at H;have c6b0:=decide_eq_true c6;clear c6;obtain⟨ji7,hji7⟩:∃ j_:Int,(wrap64 ((l0.length:Int)-1))=j_:=⟨_,rfl⟩
    (first|rw[hji7]at H|simp only[hji7]at H)
    have hji7w:(IntKind.i64.wrap ((l0.length:Int)-1))=ji7:=(bu _).trans hji7
    by_cases c8:0≤(ji7)
    case neg=>
     rw[if_neg c8]at H;exact absurd H (by simp)
    rw[if_pos c8]at H;have c8b0:=decide_eq_true c8;clear c8
    by_cases c9:(ji7)<(l0.length:Int)
    case neg=>
     rw[if_neg c9]at H;exact absurd H (by simp)
    rw[if_pos c9]at H;have c9b0:=decide_eq_true c9;clear c9
    by_cases j2:((ae l0 (ji4)).f0).toList=((ae l0 (ji7)).f0).toList
    case neg=>
     rw[if_neg j2]at H;have d3:=beq_eq_false_iff_ne.mpr j2;have d4:=bne_iff_ne.mpr j2;have H':=a0_ H;clear H;have y3:=t0_ ((ji4));have y4:=tl_ ((ji4)) (l0.length);obtain⟨g7,y5,-,-,-,-,b2,b3,b4,b5⟩:=rp_ HB (dN HR0.out (ji4) (of_eq_true y3) (of_eq_true y4));cases y5;have y6:=t0_ ((ji7));have y7:=tl_ ((ji7)) (l0.length);obtain⟨j5,y8,-,-,-,-,b6,b7,b8,b9⟩:=rp_ HB (dN HR0.out (ji7) (of_eq_true y6) (of_eq_true y7));obtain rfl:g7=j5:=(by injection y8);go_wp2
     repeat(go_quiet (fail);try go_wp2)
     (try rw[← hji4]);(try rw[← hji7]);skip
     go_meet
     case rel=>exact⟨_,(false),rs_,(by first|exact H'|(rw[hji4];exact H')|(rw[hji7];exact H')),jl_ HK1,⟨ay⟩⟩
    rw[if_pos j2]at H;have d3:=beq_iff_eq.mpr j2;have d4:=bne_eq_false_iff_eq.mpr j2;clear j2;have H':=a0_ H;clear H;have y3:=t0_ ((ji4));have y4:=tl_ ((ji4)) (l0.length);obtain⟨g7,y5,-,-,-,-,b2,b3,b4,b5⟩:=rp_ HB (dN HR0.out (ji4) (of_eq_true y3) (of_eq_true y4));cases y5;have y6:=t0_ ((ji7));have y7:=tl_ ((ji7)) (l0.length);obtain⟨j5,y8,-,-,-,-,b6,b7,b8,b9⟩:=rp_ HB (dN HR0.out (ji7) (of_eq_true y6) (of_eq_true y7));obtain rfl:g7=j5:=(by injection y8);have d9:=t0_ ((ji4));have z0:=tl_ ((ji4)) (l0.length);obtain⟨d5,z1,-,-,-,-,z6,z7,z8,z9⟩:=rp_ HB (dN HR0.out (ji4) (of_eq_true d9) (of_eq_true z0));obtain rfl:g7=d5:=(by injection z1);have z2:=t0_ ((ji7));have z3:=tl_ ((ji7)) (l0.length);obtain⟨d6,z4,-,-,-,-,f2,f3,f4,f5⟩:=rp_ HB (dN HR0.out (ji7) (of_eq_true z2) (of_eq_true z3));obtain rfl:g7=d6:=(by injection z4);go_wp2
    repeat(go_quiet (fail);try go_wp2)
    (try rw[← hji4]);(try rw[← hji7]);skip
    go_meet
    case rel=>exact⟨_,((((ae l0 (ji4)).f1)==((ae l0 (ji7)).f1))),(by first|rfl|(simp;done)|(simp only[← hji4,← hji7]<;>(first|rfl|simp))|(simp[*];done)),(by first|exact H'|(rw[hji4];exact H')|(rw[hji7];exact H')),jl_ HK1,⟨ay⟩⟩
   case rest=>
    clear HC2
    try clear c1
    obtain⟨kq,j0,rfl,HA,HJ1,HB⟩:=hcut
    cases kq with
    | zero=>exact absurd HA.out (by simp[bB.j1])
    | succ kj1=>
     have H:=HA.out;clear HA;simp only[bB.j1]at H
     by_cases y9:j0=true
     case pos=>
      subst y9;rw[if_pos rfl]at H;have H':=a0_ H;clear H;go_wp2
      repeat(go_quiet (fail);try go_wp2)
      go_roundg kj1
      case measure=>have:=HK1.out;have:=HJ1.out;omega
      case rel=>exact⟨(wrap64 (x4_1-1)),rs_,H',jm_ HK1 HJ1,⟨ay⟩⟩
     replace y9:=Bool.eq_false_iff.mpr y9;subst y9;rw[if_neg ff_]at H;obtain⟨j3,j6⟩:∃ y_:List (S45),y_=(([]:List (S45))):=⟨_,rfl⟩;replace H:=by_ j6 H;have g5:=a0_ j6;clear j6
     by_cases y1:0≤x4_1
     case neg=>
      rw[if_neg y1]at H;exact absurd H (by simp)
     rw[if_pos y1]at H;have f7:=eq_true y1;have f8:=decide_eq_true y1;clear y1
     by_cases y2:x4_1≤(l0.length:Int)
     case neg=>
      rw[if_neg y2]at H;exact absurd H (by simp)
     rw[if_pos y2]at H;have f9:=eq_true y2;have T0:=decide_eq_true y2;clear y2;obtain⟨g1,j7⟩:∃ y_:List (S45),y_=(l0.take (x4_1:Int).toNat):=⟨_,rfl⟩;replace H:=by_ j7 H;have g6:=a0_ j7;clear j7
     by_cases b0:j3.length+g1.length<2932031007402
     case neg=>
      rw[if_neg b0]at H;exact absurd H (by simp)
     rw[if_pos b0]at H;have j8:=a0_ b0;clear b0;obtain⟨z5,g8⟩:∃ y_:List (S45),y_=(j3++g1):=⟨_,rfl⟩
     replace H:(some z5)=some r:=by first|(rw[g8];with_reducible exact H)|(have H2_:=(Option.bind_some _ _).symm.trans H;rw[g8];with_reducible exact H2_)|(have H2_:=(Option.bind_some _ _).symm.trans H;with_reducible exact H2_)|with_reducible exact H|(rw[g8];exact H)|exact H
     have j9:=a0_ g8;clear g8;obtain rfl:=Option.some.inj H;go_wp2_with (first|((with_reducible refine ax (N:=41) rfl ?_);refine Kd.R_lit k45 _ 45 ?hg (N:=41) ?hd (xs:=([]:List (S45))) (inner:=[]) (ok:=fun _=>True) (okp:=fun _=>True) ?hr ?hp (fun _ hk=>hk) trivial (Below.refl _ _) (Nat.le_refl _) (by simp) ?_;(case hd=>rfl);(case hg=>rfl);(case hr=>first|(go_simp;done)|(go_simp;rfl));(case hp=>exact(br.none _ _));intro j4 d7 g0 hb hg_ hnew_;clear hg_ hnew_;(first|rw[← g5.out]at g0|(simp only[Int.reduceToNat]at g0;rw[← g5.out]at g0));have g3:=a0_ (Kd.R_lower g0 (aj ay));replace HB:=a0_ (aa ay hb);clear hb g0;have g4:(x4_1:Int)≤((l0.length:Int):Int):=dr;obtain⟨i017,hi017,_,hsz17,_⟩:=info_parts dz;have hroom17:l0.length≤c0:=HC0.out;have hC17:Kd.C k45 _ A0 l0.length l0:=HR0.out;have hcut17:=gI (P:=Tryz.prog) 27 45 .i64 Tryz.underlying27 hi017 A0 l0.length c0 x4_1 (dr) g4 hroom17;have hr17:=Kd.C_take (m:=(x4_1:Int).toNat) hC17 (by omega);have g2:g1.length=(x4_1:Int).toNat:=(by rw[g6.out,List.length_take];omega);rw[← g6.out]at hr17;rw[← g2]at hcut17;have g9:=a0_ hr17;have b1:=a0_ (show g1.length≤c0 from by omega);clear hr17 hC17 hroom17 hi017 hsz17;have KY17:=a0_ g2;clear g2;replace g4:=eq_true g4)|((with_reducible refine bz (b:=.append) (xs:=#[.tmp 41,.tmp 44]) rfl ?_);at_builtin;refine Kd.R_append_rows k45 (w0:=w) w.heap.size rfl (.tmp 41) (.tmp 44) 27 45 (.agg #[(.string ⟨#[]⟩),(.int .i64 0),(.int .i64 0),(.string ⟨#[]⟩)]) 48 rfl Tryz.underlying27 dz rfl (by decide) (by omega) j4 j3 g1 _ _ _ (fun _=>True) (fun _=>False) rfl rfl ?aO ?aR (fun _ _ h=>h) (fun _ h=>h.elim) ?aF ?aB ?aS ?aL ?_;(case aR=>repeat(first|exact(Kd.C_below g9.out HB.out)|(with_reducible refine Kd.C_alloc ?_ _)|(with_reducible refine Kd.C_drewN ?_ _)|(with_reducible refine Kd.C_drew ?_)));(case aB=>exact ay);(case aF=>exact(fun _ _=>trivial));(case aO=>exact(kR_ g3.out));(case aS=>exact(aj ay));(case aL=>have:=j8.out;omega);intro d0 d8 ho hb hg hat;rw[← j9.out]at ho;replace HB:=a0_ (hb);have y0:=a0_ (ho);clear g3;clear ho hb hg hat))
     repeat(go_quiet (first|((with_reducible refine ax (N:=41) rfl ?_);refine Kd.R_lit k45 _ 45 ?hg (N:=41) ?hd (xs:=([]:List (S45))) (inner:=[]) (ok:=fun _=>True) (okp:=fun _=>True) ?hr ?hp (fun _ hk=>hk) trivial (Below.refl _ _) (Nat.le_refl _) (by simp) ?_;(case hd=>rfl);(case hg=>rfl);(case hr=>first|(go_simp;done)|(go_simp;rfl));(case hp=>exact(br.none _ _));intro j4 d7 g0 hb hg_ hnew_;clear hg_ hnew_;(first|rw[← g5.out]at g0|(simp only[Int.reduceToNat]at g0;rw[← g5.out]at g0));have g3:=a0_ (Kd.R_lower g0 (aj ay));replace HB:=a0_ (aa ay hb);clear hb g0;have g4:(x4_1:Int)≤((l0.length:Int):Int):=dr;obtain⟨i017,hi017,_,hsz17,_⟩:=info_parts dz;have hroom17:l0.length≤c0:=HC0.out;have hC17:Kd.C k45 _ A0 l0.length l0:=HR0.out;have hcut17:=gI (P:=Tryz.prog) 27 45 .i64 Tryz.underlying27 hi017 A0 l0.length c0 x4_1 (dr) g4 hroom17;have hr17:=Kd.C_take (m:=(x4_1:Int).toNat) hC17 (by omega);have g2:g1.length=(x4_1:Int).toNat:=(by rw[g6.out,List.length_take];omega);rw[← g6.out]at hr17;rw[← g2]at hcut17;have g9:=a0_ hr17;have b1:=a0_ (show g1.length≤c0 from by omega);clear hr17 hC17 hroom17 hi017 hsz17;have KY17:=a0_ g2;clear g2;replace g4:=eq_true g4)|((with_reducible refine bz (b:=.append) (xs:=#[.tmp 41,.tmp 44]) rfl ?_);at_builtin;refine Kd.R_append_rows k45 (w0:=w) w.heap.size rfl (.tmp 41) (.tmp 44) 27 45 (.agg #[(.string ⟨#[]⟩),(.int .i64 0),(.int .i64 0),(.string ⟨#[]⟩)]) 48 rfl Tryz.underlying27 dz rfl (by decide) (by omega) j4 j3 g1 _ _ _ (fun _=>True) (fun _=>False) rfl rfl ?aO ?aR (fun _ _ h=>h) (fun _ h=>h.elim) ?aF ?aB ?aS ?aL ?_;(case aR=>repeat(first|exact(Kd.C_below g9.out HB.out)|(with_reducible refine Kd.C_alloc ?_ _)|(with_reducible refine Kd.C_drewN ?_ _)|(with_reducible refine Kd.C_drew ?_)));(case aB=>exact ay);(case aF=>exact(fun _ _=>trivial));(case aO=>exact(kR_ g3.out));(case aS=>exact(aj ay));(case aL=>have:=j8.out;omega);intro d0 d8 ho hb hg hat;rw[← j9.out]at ho;replace HB:=a0_ (hb);have y0:=a0_ (ho);clear g3;clear ho hb hg hat));try go_wp2_with (first|((with_reducible refine ax (N:=41) rfl ?_);refine Kd.R_lit k45 _ 45 ?hg (N:=41) ?hd (xs:=([]:List (S45))) (inner:=[]) (ok:=fun _=>True) (okp:=fun _=>True) ?hr ?hp (fun _ hk=>hk) trivial (Below.refl _ _) (Nat.le_refl _) (by simp) ?_;(case hd=>rfl);(case hg=>rfl);(case hr=>first|(go_simp;done)|(go_simp;rfl));(case hp=>exact(br.none _ _));intro j4 d7 g0 hb hg_ hnew_;clear hg_ hnew_;(first|rw[← g5.out]at g0|(simp only[Int.reduceToNat]at g0;rw[← g5.out]at g0));have g3:=a0_ (Kd.R_lower g0 (aj ay));replace HB:=a0_ (aa ay hb);clear hb g0;have g4:(x4_1:Int)≤((l0.length:Int):Int):=dr;obtain⟨i017,hi017,_,hsz17,_⟩:=info_parts dz;have hroom17:l0.length≤c0:=HC0.out;have hC17:Kd.C k45 _ A0 l0.length l0:=HR0.out;have hcut17:=gI (P:=Tryz.prog) 27 45 .i64 Tryz.underlying27 hi017 A0 l0.length c0 x4_1 (dr) g4 hroom17;have hr17:=Kd.C_take (m:=(x4_1:Int).toNat) hC17 (by omega);have g2:g1.length=(x4_1:Int).toNat:=(by rw[g6.out,List.length_take];omega);rw[← g6.out]at hr17;rw[← g2]at hcut17;have g9:=a0_ hr17;have b1:=a0_ (show g1.length≤c0 from by omega);clear hr17 hC17 hroom17 hi017 hsz17;have KY17:=a0_ g2;clear g2;replace g4:=eq_true g4)|((with_reducible refine bz (b:=.append) (xs:=#[.tmp 41,.tmp 44]) rfl ?_);at_builtin;refine Kd.R_append_rows k45 (w0:=w) w.heap.size rfl (.tmp 41) (.tmp 44) 27 45 (.agg #[(.string ⟨#[]⟩),(.int .i64 0),(.int .i64 0),(.string ⟨#[]⟩)]) 48 rfl Tryz.underlying27 dz rfl (by decide) (by omega) j4 j3 g1 _ _ _ (fun _=>True) (fun _=>False) rfl rfl ?aO ?aR (fun _ _ h=>h) (fun _ h=>h.elim) ?aF ?aB ?aS ?aL ?_;(case aR=>repeat(first|exact(Kd.C_below g9.out HB.out)|(with_reducible refine Kd.C_alloc ?_ _)|(with_reducible refine Kd.C_drewN ?_ _)|(with_reducible refine Kd.C_drew ?_)));(case aB=>exact ay);(case aF=>exact(fun _ _=>trivial));(case aO=>exact(kR_ g3.out));(case aS=>exact(aj ay));(case aL=>have:=j8.out;omega);intro d0 d8 ho hb hg hat;rw[← j9.out]at ho;replace HB:=a0_ (hb);have y0:=a0_ (ho);clear g3;clear ho hb hg hat)))
     go_ret;exact⟨_,rr_,kR_ y0.out,ay⟩
def aM.f(s0_0:List Int)(s0_1:Int)(s0_2:Int)(a1:Int): Option (Int×Int×Int):=if a1≤1 then(some (0,s0_1,s0_2))else((dp.f s0_0 s0_1 s0_2).bind fun g0=>(if a1>200 then((dp.f s0_0 g0.2.1 g0.2.2).bind fun g1=>(if a1=0 then(none)else(some (Int.tmod (wrap64 ((wrap64 (g0.1*256))+g1.1)) a1,g1.2.1,g1.2.2))))else(if a1=0 then(none)else(some (Int.tmod g0.1 a1,g0.2.1,g0.2.2)))))
theorem aM.c(g:Nat)(s0_0:List Int)(s0_1:Int)(s0_2:Int)(a1:Int)(r1:Int)(r2:Int)(r3:Int)(w0 w:World)(hI:ak w0 w g s0_0 s0_1 s0_2)(hB:Below w0.heap.size w0 w)(h:aM.f s0_0 s0_1 s0_2 a1=some (r1,r2,r3)):
 Calls Tryz.prog 111 #[.pointer (some ⟨g,0,none⟩),.int .i64 a1] w fun e w'=>e = .returned (.int .i64 r1)∧ak w0 w' g s0_0 r2 r3∧Below w0.heap.size w0 w'∧aJ w w' g none:=by
 have HI0:=a0_ hI;have HK:=a0_ (aJ.refl w g none);have HL:=a0_ hB.size;clear hI;have HW0:=a0_ hB.size;have HB:=a0_ hB;clear hB;have H:=h;clear h;unfold aM.f at H
 by_cases c3:a1≤1
 case pos=>
  rw[if_pos c3]at H;have c3b0:=decide_eq_true c3;clear c3;simp only[Option.some.injEq,Prod.mk.injEq]at H;obtain⟨rfl,rfl,rfl⟩:=H;go_enter Tryz.func111,Tryz.ntmps111;go_wp2;go_ret;exact⟨rr_,bg,ca,kq_⟩
 rw[if_neg c3]at H;have c3b0:=decide_eq_false c3;clear c3;obtain⟨⟨g3,g0,g1⟩,A4,H⟩:=ob_ H
 by_cases c5:a1>200
 case neg=>
  rw[if_neg c5]at H;have c5b0:=decide_eq_false c5;clear c5
  by_cases g2:a1=0
  case pos=>
   rw[if_pos g2]at H;exact absurd H (by simp)
  rw[if_neg g2]at H;have g7:=beq_eq_false_iff_ne.mpr g2;have g8:=bne_iff_ne.mpr g2;simp only[Option.some.injEq,Prod.mk.injEq]at H;obtain⟨rfl,rfl,rfl⟩:=H;go_enter Tryz.func111,Tryz.ntmps111;go_wp2_with (first|((with_reducible refine gt_ 165 rfl ?_);refine gs_ 9 Tryz.func165 #[.pointer (some ⟨g,0,none⟩)] ?_;(with_reducible refine(dp.c g s0_0 s0_1 s0_2 g3 g0 g1 w0 _ ?side1 ?side2 A4.out).mono ?_);(case side1=>exact bg);(case side2=>exact ca);rintro e g9 ⟨rfl,hi,hb,hk⟩;refine⟨_,rfl,?_⟩;replace HK:=a0_ (kt_ HK hk (.inl rfl));replace HB:=a0_ (hb);replace HI0:=a0_ (hi);clear hb hk hi));go_ret;exact⟨rr_,bg,ca,kq_⟩
 rw[if_pos c5]at H;have c5b0:=decide_eq_true c5;clear c5;obtain⟨⟨g4,g5,g6⟩,A6,H⟩:=ob_ H
 by_cases c7:a1=0
 case pos=>
  rw[if_pos c7]at H;exact absurd H (by simp)
 rw[if_neg c7]at H;have c7b0:=beq_eq_false_iff_ne.mpr c7;have c7b1:=bne_iff_ne.mpr c7;simp only[Option.some.injEq,Prod.mk.injEq]at H;obtain⟨rfl,rfl,rfl⟩:=H;go_enter Tryz.func111,Tryz.ntmps111;go_wp2_with (first|((with_reducible refine gt_ 165 rfl ?_);refine gs_ 9 Tryz.func165 #[.pointer (some ⟨g,0,none⟩)] ?_;(with_reducible refine(dp.c g s0_0 s0_1 s0_2 g3 g0 g1 w0 _ ?side1 ?side2 A4.out).mono ?_);(case side1=>exact bg);(case side2=>exact ca);rintro e w8 ⟨rfl,hi,hb,hk⟩;refine⟨_,rfl,?_⟩;replace HK:=a0_ (kt_ HK hk (.inl rfl));replace HB:=a0_ (hb);replace HI0:=a0_ (hi);clear hb hk hi)|((with_reducible refine gt_ 165 rfl ?_);refine gs_ 15 Tryz.func165 #[.pointer (some ⟨g,0,none⟩)] ?_;(with_reducible refine(dp.c g s0_0 g0 g1 g4 g5 g6 w0 _ ?side1 ?side2 A6.out).mono ?_);(case side1=>exact bg);(case side2=>exact ca);rintro e w9 ⟨rfl,hi,hb,hk⟩;refine⟨_,rfl,?_⟩;replace HK:=a0_ (kt_ HK hk (.inl rfl));replace HB:=a0_ (hb);replace HI0:=a0_ (hi);clear hb hk hi));go_ret;exact⟨rr_,bg,ca,kq_⟩
def dI.f(a0:Bool): Option (Int):=if a0=true then(some (-1))else(some 1)
theorem dI.c(a0:Bool)(r:Int)(w:World)(h:dI.f a0=some r):
 Calls Tryz.prog 129 #[.bool a0] w fun e w'=>e = .returned (.int .i64 r)∧cC w w':=by
 have H:=h;clear h;unfold dI.f at H
 by_cases c2:a0=true
 case pos=>
  subst c2;rw[if_pos rfl]at H;obtain rfl:=Option.some.inj H;go_enter Tryz.func129,Tryz.ntmps129;go_wp2;go_ret;exact⟨rs_,dr_⟩
 replace c2:=Bool.eq_false_iff.mpr c2;subst c2;rw[if_neg ff_]at H;obtain rfl:=Option.some.inj H;go_enter Tryz.func129,Tryz.ntmps129;go_wp2;go_ret;exact⟨rs_,dr_⟩
mutual
def av.l0: Nat→List (S83)→List (S45)→Int→Int→Option ((List (S83))×Bool)
 | 0,_,_,_,_=>none
 | k+1,x4,x8,x9,g0=>if g0<x9 then(if 0≤g0 then(if g0<(x8.length:Int)then(if(wrap64 ((x4.length:Int)-1))≥0 then(if 0≤(wrap64 ((x4.length:Int)-1))then(if(wrap64 ((x4.length:Int)-1))<(x4.length:Int)then(if((ao x4 (wrap64 ((x4.length:Int)-1))).f0).toList=((ae x8 g0).f0).toList then(av.j1 k x4 (wrap64 ((x4.length:Int)-1)) x8 x9 g0 (((ao x4 (wrap64 ((x4.length:Int)-1))).f1)==((ae x8 g0).f1)) ((ae x8 g0).f0) ((ae x8 g0).f1) ((ae x8 g0).f2) ((ae x8 g0).f3))else(av.j1 k x4 (wrap64 ((x4.length:Int)-1)) x8 x9 g0 false ((ae x8 g0).f0) ((ae x8 g0).f1) ((ae x8 g0).f2) ((ae x8 g0).f3)))else(none))else(none))else(av.j1 k x4 (wrap64 ((x4.length:Int)-1)) x8 x9 g0 false ((ae x8 g0).f0) ((ae x8 g0).f1) ((ae x8 g0).f2) ((ae x8 g0).f3)))else(none))else(none))else(some (x4,decide ((x4.length:Int)≤40)))
def av.j1: Nat→List (S83)→Int→List (S45)→Int→Int→Bool→ByteArray→Int→Int→ByteArray→Option ((List (S83))×Bool)
 | 0,_,_,_,_,_,_,_,_,_,_=>none
 | k+1,x4,x7,x8,x9,g4,g5,g2,g3,g0,g1=>if g5=true then(if 0≤x7 then(if x7<(x4.length:Int)then(if((ao x4 x7).f2)=g0 then(if((ao x4 x7).f3).length<8796093022208 then(av.l0 k (x4.set (x7:Int).toNat (⟨(ao x4 x7).f0,(ao x4 x7).f1,(ao x4 x7).f2,(((ao x4 x7).f3) ++ [g1])⟩:S83)) x8 x9 (wrap64 (g4+1)))else(none))else(some (([]:List (S83)),false)))else(none))else(none))else(if x4.length<2513169434916 then(av.l0 k (x4 ++ [(⟨g2,g3,g0,(([g1]:List ByteArray))⟩:S83)]) x8 x9 (wrap64 (g4+1)))else(none))
end
def av.f(k:Nat)(l0:List (S45)): Option ((List (S83))×Bool):=av.l0 k ([]:List (S83)) l0 (l0.length:Int) 0
def av.T6: Bool×List (List Nat×List Nat):=(true,[([],[]),([0],[0]),([1],[1]),([2],[2]),([2],[2]),([3,4,2],[2,3,4]),([5,2],[2,5]),([6,2],[2,6]),([2],[2]),([8,2],[2,8]),([7,9,2],[2,7,9]),([2,10],[2,10]),([11,2],[11]),([12],[12]),([12],[12]),([13,14,12],[12,13,14]),([15,12],[12,15]),([16,12],[12,16]),([12],[12]),([18,12],[12,18]),([17,19,12],[12,17,19]),([12,20],[12,20])])
def av.B6: List Nat:=[0,1,3,7,7,31,63,127,7,263,1023,2047,4095,8191,8191,32767,65535,131071,8191,270335,1048575,2097151]
theorem av.tab6: eA .any (fc Tryz.f63 6)=av.T6:=by kernel_rfl
theorem av.bits6: du av.T6.2 av.B6=true:=by kernel_rfl
def av.T7: Bool×List (List Nat×List Nat):=(true,[([],[]),([],[]),([0,1],[0,1]),([2],[2]),([3],[3]),([],[]),([5],[5]),([4,6],[4,6])])
def av.B7: List Nat:=[0,0,3,7,15,0,32,127]
theorem av.tab7: eA .any (fc Tryz.f63 7)=av.T7:=by kernel_rfl
theorem av.bits7: du av.T7.2 av.B7=true:=by kernel_rfl
def av.T9: Bool×List (List Nat×List Nat):=(true,[([],[]),([],[]),([],[]),([],[]),([2,3],[2,3]),([4],[4]),([5],[5]),([],[]),([7],[7]),([8],[8]),([6,9],[6,9]),([0,1,0,1,2,3,4,5,6,7,8,9,10],[0,1]),([11,0,1,2,3,4,5,6,7,8,9,10],[11]),([12,10,10,0,1,2,3,4,5,6,7,8,9,10],[10,12])])
def av.B9: List Nat:=[0,0,0,0,12,28,60,0,128,384,1020,2047,4095,8191]
theorem av.tab9: eA .any (fc Tryz.f63 9)=av.T9:=by kernel_rfl
theorem av.bits9: du av.T9.2 av.B9=true:=by kernel_rfl
theorem av.c(k:Nat)(A0:Option Addr)(c0:Nat)(l0:List (S45))(r1:List (S83))(r2:Bool)(w:World)(hr0:Kd.C k45 w A0 l0.length l0)(hc0:l0.length≤c0)(h:av.f k l0=some (r1,r2)):
 Calls Tryz.prog 63 #[.slice A0 l0.length c0] w fun e w'=> ∃ v0_:Value,e = .returned (.tuple #[v0_,.bool r2])∧Kd.S k83 83 w' w.heap.size (fun _=>True) v0_ r1∧Below w.heap.size w w':=by
 have hu45:=Tryz.underlying45;have hu83:=Tryz.underlying83;have HR0:=a0_ hr0;have HC0:=a0_ hc0;clear hr0 hc0;have HB:=a0_ (Below.refl w.heap.size w);have H:=h;clear h;unfold av.f at H;have H':=a0_ H;clear H;go_enter Tryz.func63,Tryz.ntmps63;go_wp2;go_loopg [4,10] k (fun kq v4 D3 w'=> ∃ (x4_1:List (S83)) (g0:Int),D3 = .int .i64 g0∧ab (av.l0 kq x4_1 l0 (l0.length:Int) g0=some (r1,r2))∧ab (kq≤k)∧ab (Kd.S k83 83 w' w.heap.size (fun _=>True) v4 x4_1)∧ab (Below w.heap.size w w'))
 case atStart=>exact⟨(([]:List (S83))),(0),rs_,H',⟨Nat.le_refl _⟩,⟨by first|exact Kd.S_nil _ _ _ _ _|exact Kd.N_nil _ _ _ _ _|exact Kd.V_nil _ _ _ _ _|exact Kd.Q_nil _ _ _ _ _|exact Kd.R_nil _ _ _ _ _⟩,⟨ay⟩⟩
 case round=>
  clear H';obtain⟨x4_1,g0,rfl,HA,HK1,HO_4,HB⟩:=hrel
  cases gk with
  | zero=>exact absurd HA.out (by simp[av.l0])
  | succ k1=>
   have H:=HA.out;clear HA;simp only[av.l0]at H
   by_cases c2:g0<(l0.length:Int)
   case neg=>
    rw[if_neg c2]at H;have c2b0:=decide_eq_false c2;clear c2;simp only[Option.some.injEq,Prod.mk.injEq]at H;obtain⟨rfl,rfl⟩:=H;obtain⟨Y7,Y8,J6⟩:=Kd.S_slice HO_4.out;subst J6;go_wp2;go_ret2;exact⟨_,rr_,kS_ HO_4.out,ay⟩
   rw[if_pos c2]at H;have c2b0:=decide_eq_true c2;clear c2
   by_cases c3:0≤g0
   case neg=>
    rw[if_neg c3]at H;exact absurd H (by simp)
   rw[if_pos c3]at H;have c3b0:=decide_eq_true c3;clear c3
   by_cases c4:g0<(l0.length:Int)
   case neg=>
    rw[if_neg c4]at H;exact absurd H (by simp)
   rw[if_pos c4]at H;have c4b0:=decide_eq_true c4;clear c4;have HC5:=a0_ H;clear H;have J7:=t0_ (g0);have J8:=tl_ (g0) (l0.length);obtain⟨Y1,J9,-,-,-,-,Q7,Q8,Q9,D0⟩:=rp_ HB (dN HR0.out g0 (of_eq_true J7) (of_eq_true J8));cases J9;go_upto_region 6 with(first|((with_reducible refine ax (N:=6) rfl ?_);refine cm 6 #[.string (⟨#[]⟩:ByteArray),.int .i64 0,.int .i64 0,.string (⟨#[]⟩:ByteArray)] 45 (fun g4 hg w6 hbox hb=>?_);replace HO_4:=a0_ (Kd.S_below (by(with_reducible repeat(first|apply Kd.S_alloc|apply Kd.S_drewN|apply Kd.S_drew));exact HO_4.out) hb);have g1:=a0_ (hbox);have G3:=a0_ (gw_ hg:w.heap.size≤g4);replace HB:=a0_ (aa ay hb);have Y2:=G3;clear hb hbox hg;obtain⟨_,_,_,_,_,_,_,_⟩:=cY g1.out;obtain⟨Ao8,co8,eo8⟩:=Kd.S_slice HO_4.out;subst eo8))
   (try simp only[Act.put,List.setIfInBounds_toArray,List.set_cons_zero,List.set_cons_succ])
   go_cut [38] (fun D4 wc=> ∃ (kq:Nat) (b5:Bool),D4 = .bool b5∧ab (av.j1 kq x4_1 (wrap64 ((x4_1.length:Int)-1)) l0 (l0.length:Int) g0 b5 ((ae l0 g0).f0) ((ae l0 g0).f1) ((ae l0 g0).f2) ((ae l0 g0).f3)=some (r1,r2))∧ab (kq≤k1)∧ab (Kd.S k83 83 wc w.heap.size (fun _=>True) (.slice Ao8 x4_1.length co8) x4_1)∧ab (wc.heap[g4]? = some (.cells #[.string ((ae l0 g0).f0),.int .i64 ((ae l0 g0).f1),.int .i64 ((ae l0 g0).f2),.string ((ae l0 g0).f3)] 45 (0,0)))∧ab (Below w.heap.size w wc))
   case first=>
    have H:=HC5.out;clear HC5
    by_cases c9:(wrap64 ((x4_1.length:Int)-1))≥0
    case neg=>
     rw[if_neg c9]at H;have c9b0:=decide_eq_false c9;clear c9
     (first|rw[c9b0]|(simp only[bu,bI];rw[c9b0])|skip)
     have H':=a0_ H;clear H
     try go_wp2
     generalize hE_:((((w6.setCell ⟨g4,0,none⟩ (.string ((ae l0 g0).f0))).setCell ⟨g4,1,none⟩ (.int .i64 ((ae l0 g0).f1))).setCell ⟨g4,2,none⟩ (.int .i64 ((ae l0 g0).f2))).setCell ⟨g4,3,none⟩ (.string ((ae l0 g0).f3)))=z9;have n0_:ab (Kd.S k83 83 z9 w.heap.size (fun _=>True) (.slice Ao8 x4_1.length co8) x4_1):=⟨by rw[← hE_];exact kS_ (Kd.S_mono (rO g4 (Kd.S_types HO_4.out g1.out (by decide)) (fun _ hk=>hk.2) (.string ((ae l0 g0).f0)) (.int .i64 ((ae l0 g0).f1)) (.int .i64 ((ae l0 g0).f2)) (.string ((ae l0 g0).f3))) (fun _ hk=>trivial))⟩;have n1_:ab (z9.heap[g4]? = some (.cells #[.string ((ae l0 g0).f0),.int .i64 ((ae l0 g0).f1),.int .i64 ((ae l0 g0).f2),.string ((ae l0 g0).f3)] 45 (0,0))):=⟨by rw[← hE_];exact fl g1.out⟩;have n2_:ab (Below w.heap.size w z9):=⟨by rw[← hE_];exact aD⟩
     (try clear HO_4)
     (try clear g1)
     (try clear HB)
     clear hE_;have HO_4:=n0_;have g1:=n1_;have HB:=n2_;clear n0_ n1_ n2_;replace HO_4:=a0_ (Kd.S_drew HO_4.out);replace g1:=a0_ (az g1.out);replace HB:=a0_ (bp HB.out)
     refine fN 22 [] ht_ (fun hHeld=>?_);refine ck av.tab6 av.bits6 (fun HT_ HW_=>?_)
     generalize z9.drew=Z3 at HO_4 g1 HB hHeld ⊢
     refine p_ 0 17 ?_
     refine p_ 1 18 ?_
     refine p_ 2 19 ?_
     refine s_ 3 20 ?_
     refine s_ 4 21 ?_
     refine s_ 5 22 ?_
     refine s_ 6 23 ?_
     refine s_ 7 24 ?_
     refine s_ 8 25 ?_
     refine s_ 9 26 ?_
     refine s_ 10 27 ?_
     refine p_ 11 28 ?_
     refine p_ 12 29 ?_
     refine s_ 13 30 ?_
     refine s_ 14 31 ?_
     refine s_ 15 32 ?_
     refine s_ 16 33 ?_
     refine s_ 17 34 ?_
     refine s_ 18 35 ?_
     refine s_ 19 36 ?_
     refine s_ 20 37 ?_
     refine p_ 21 38 ?_
     refine dZ (db HT_.out (by kernel_rfl)) ?_
     try go_wp2
     (try rw[← j0]);(try rw[← j6]);skip
     go_meet
     case rel=>exact⟨_,(false),rs_,(by first|exact H'|(rw[j0];exact H')|(rw[j6];exact H')),jl_ HK1,⟨kS_ HO_4.out⟩,⟨bz_⟩,⟨aD⟩⟩
    rw[if_pos c9]at H;have c9b0:=decide_eq_true c9;clear c9
    (first|rw[c9b0]|(simp only[bu,bI];rw[c9b0])|skip)
    obtain⟨g5,j0⟩:∃ j_:Int,(wrap64 ((x4_1.length:Int)-1))=j_:=⟨_,rfl⟩
    (first|rw[j0]at H|simp only[j0]at H)
    (try rw[j0]at c9b0)
    have D5:(IntKind.i64.wrap ((x4_1.length:Int)-1))=g5:=(bu _).trans j0
    by_cases f4:0≤(g5)
    case neg=>
     rw[if_neg f4]at H;exact absurd H (by simp)
    rw[if_pos f4]at H;have Y3:=decide_eq_true f4;clear f4
    by_cases f5:(g5)<(x4_1.length:Int)
    case neg=>
     rw[if_neg f5]at H;exact absurd H (by simp)
    rw[if_pos f5]at H;have Y4:=decide_eq_true f5;clear f5
    by_cases b7:((ao x4_1 (g5)).f0).toList=((ae l0 g0).f0).toList
    case neg=>
     rw[if_neg b7]at H;have G4:=beq_eq_false_iff_ne.mpr b7;have G5:=bne_iff_ne.mpr b7;have H':=a0_ H;clear H
     try go_wp2
     generalize hE_:((((w6.setCell ⟨g4,0,none⟩ (.string ((ae l0 g0).f0))).setCell ⟨g4,1,none⟩ (.int .i64 ((ae l0 g0).f1))).setCell ⟨g4,2,none⟩ (.int .i64 ((ae l0 g0).f2))).setCell ⟨g4,3,none⟩ (.string ((ae l0 g0).f3)))=f6;have n0_:ab (Kd.S k83 83 f6 w.heap.size (fun _=>True) (.slice Ao8 x4_1.length co8) x4_1):=⟨by rw[← hE_];exact kS_ (Kd.S_mono (rO g4 (Kd.S_types HO_4.out g1.out (by decide)) (fun _ hk=>hk.2) (.string ((ae l0 g0).f0)) (.int .i64 ((ae l0 g0).f1)) (.int .i64 ((ae l0 g0).f2)) (.string ((ae l0 g0).f3))) (fun _ hk=>trivial))⟩;have n1_:ab (f6.heap[g4]? = some (.cells #[.string ((ae l0 g0).f0),.int .i64 ((ae l0 g0).f1),.int .i64 ((ae l0 g0).f2),.string ((ae l0 g0).f3)] 45 (0,0))):=⟨by rw[← hE_];exact fl g1.out⟩;have n2_:ab (Below w.heap.size w f6):=⟨by rw[← hE_];exact aD⟩
     (try clear HO_4)
     (try clear g1)
     (try clear HB)
     clear hE_;have HO_4:=n0_;have g1:=n1_;have HB:=n2_;clear n0_ n1_ n2_;replace HO_4:=a0_ (Kd.S_drew HO_4.out);replace g1:=a0_ (az g1.out);replace HB:=a0_ (bp HB.out);have y5:0≤((g5):Int):=dr;have y6:(g5)<(x4_1.length:Int):=dr;obtain⟨f7,V2,V3,z7,j8,j9,y0,g9,hl318_3,hi318_3⟩:=gT (Kd.S_reads' HO_4.out).2.2 (g5) y5 y6;cases z7;obtain⟨ce318,hce318,hMe318,hcc318⟩:=Kd.S_get HO_4.out z83 (g5) y5 (by first|exact y6|exact dr|(have e_:=(Kd.S_reads' HO_4.out).1;omega));obtain⟨ve318_3,rfl,ge318_3⟩:=fo hMe318;have g6:=hcc318 3 _ rfl;rw[eh _ _ 3 (by omega)]at g6;replace g6:=Option.some.inj (g6.symm.trans g9);rw[g6]at ge318_3;have y9:=a0_ (show Kd.R Kd.string 9 _ _ _ _ ((ao x4_1 (g5)).f3)from ge318_3);clear g6 ge318_3;have HX318_3:=a0_ g9;clear hcc318 hce318;have b0:=a0_ hi318_3;have T7:=a0_ hl318_3;clear hi318_3 hl318_3;replace y5:=eq_true y5;replace y6:=eq_true y6
     refine fN 22 [] (cb_ g1.out (e4_ j8 j9 y0 g9)) (fun hHeld=>?_);refine ck av.tab6 av.bits6 (fun HT_ HW_=>?_)
     generalize f6.drew=Z4 at HO_4 g1 HB y9 b0 HX318_3 j8 j9 y0 g9 hHeld ⊢
     refine p_ 0 17 ?_
     refine p_ 1 18 ?_
     refine p_ 2 19 ?_
     refine p_ 3 20 ?_
     refine p_ 4 21 ?_
     refine p_ 5 22 ?_
     refine p_ 6 23 ?_
     refine p_ 8 25 ?_
     refine t_ 7 24 ?_
     refine t_ 9 26 ?_
     refine p_ 10 27 ?_
     refine p_ 11 28 ?_
     refine p_ 12 29 ?_
     refine s_ 13 30 ?_
     refine s_ 14 31 ?_
     refine s_ 15 32 ?_
     refine s_ 16 33 ?_
     refine s_ 17 34 ?_
     refine s_ 18 35 ?_
     refine s_ 19 36 ?_
     refine s_ 20 37 ?_
     refine p_ 21 38 ?_
     refine dZ (db HT_.out (by kernel_rfl)) ?_
     try go_wp2
     (try rw[← j0]);(try rw[← j6]);skip
     go_meet
     case rel=>exact⟨_,(false),rs_,(by first|exact H'|(rw[j0];exact H')|(rw[j6];exact H')),jl_ HK1,⟨kS_ HO_4.out⟩,⟨bz_⟩,⟨aD⟩⟩
    rw[if_pos b7]at H;have G4:=beq_iff_eq.mpr b7;have G5:=bne_eq_false_iff_eq.mpr b7;clear b7;have H':=a0_ H;clear H
    try go_wp2
    generalize hE_:((((w6.setCell ⟨g4,0,none⟩ (.string ((ae l0 g0).f0))).setCell ⟨g4,1,none⟩ (.int .i64 ((ae l0 g0).f1))).setCell ⟨g4,2,none⟩ (.int .i64 ((ae l0 g0).f2))).setCell ⟨g4,3,none⟩ (.string ((ae l0 g0).f3)))=f8;have n0_:ab (Kd.S k83 83 f8 w.heap.size (fun _=>True) (.slice Ao8 x4_1.length co8) x4_1):=⟨by rw[← hE_];exact kS_ (Kd.S_mono (rO g4 (Kd.S_types HO_4.out g1.out (by decide)) (fun _ hk=>hk.2) (.string ((ae l0 g0).f0)) (.int .i64 ((ae l0 g0).f1)) (.int .i64 ((ae l0 g0).f2)) (.string ((ae l0 g0).f3))) (fun _ hk=>trivial))⟩;have n1_:ab (f8.heap[g4]? = some (.cells #[.string ((ae l0 g0).f0),.int .i64 ((ae l0 g0).f1),.int .i64 ((ae l0 g0).f2),.string ((ae l0 g0).f3)] 45 (0,0))):=⟨by rw[← hE_];exact fl g1.out⟩;have n2_:ab (Below w.heap.size w f8):=⟨by rw[← hE_];exact aD⟩
    (try clear HO_4)
    (try clear g1)
    (try clear HB)
    clear hE_;have HO_4:=n0_;have g1:=n1_;have HB:=n2_;clear n0_ n1_ n2_;replace HO_4:=a0_ (Kd.S_drew HO_4.out);replace g1:=a0_ (az g1.out);replace HB:=a0_ (bp HB.out);have y5:0≤((g5):Int):=dr;have y6:(g5)<(x4_1.length:Int):=dr;obtain⟨f7,V2,V3,z7,j8,j9,y0,g9,hl318_3,hi318_3⟩:=gT (Kd.S_reads' HO_4.out).2.2 (g5) y5 y6;cases z7;obtain⟨ce318,hce318,hMe318,hcc318⟩:=Kd.S_get HO_4.out z83 (g5) y5 (by first|exact y6|exact dr|(have e_:=(Kd.S_reads' HO_4.out).1;omega));obtain⟨ve318_3,rfl,ge318_3⟩:=fo hMe318;have g6:=hcc318 3 _ rfl;rw[eh _ _ 3 (by omega)]at g6;replace g6:=Option.some.inj (g6.symm.trans g9);rw[g6]at ge318_3;have y9:=a0_ (show Kd.R Kd.string 9 _ _ _ _ ((ao x4_1 (g5)).f3)from ge318_3);clear g6 ge318_3;have HX318_3:=a0_ g9;clear hcc318 hce318;have b0:=a0_ hi318_3;have T7:=a0_ hl318_3;clear hi318_3 hl318_3;replace y5:=eq_true y5;replace y6:=eq_true y6;have d5:0≤((g5):Int):=dr;have d6:(g5)<(x4_1.length:Int):=dr;obtain⟨G6,D6,D7,Q0,d0,d3,d4,y1,hl319_3,hi319_3⟩:=gT (Kd.S_reads' HO_4.out).2.2 (g5) d5 d6;obtain rfl:f7=G6:=(by injection Q0);obtain⟨ce319,hce319,hMe319,hcc319⟩:=Kd.S_get HO_4.out z83 (g5) d5 (by first|exact d6|exact dr|(have e_:=(Kd.S_reads' HO_4.out).1;omega));obtain⟨ve319_3,rfl,ge319_3⟩:=fo hMe319;have y2:=hcc319 3 _ rfl;rw[eh _ _ 3 (by omega)]at y2;replace y2:=Option.some.inj (y2.symm.trans y1);rw[y2]at ge319_3;have T8:=a0_ (show Kd.R Kd.string 9 _ _ _ _ ((ao x4_1 (g5)).f3)from ge319_3);clear y2 ge319_3;have HX319_3:=a0_ y1;clear hcc319 hce319;have T9:=a0_ hi319_3;have D1:=a0_ hl319_3;clear hi319_3 hl319_3;replace d5:=eq_true d5;replace d6:=eq_true d6;have ea_:=Option.some.inj (g9.symm.trans y1)
    injection ea_ with ea_ en_ ec_
    subst ea_;subst ec_;clear en_
    refine fN 22 [] (cb_ g1.out (c4_ j8 j9 y0 g9 (e4_ d0 d3 d4 y1))) (fun hHeld=>?_);refine ck av.tab6 av.bits6 (fun HT_ HW_=>?_)
    generalize f8.drew=Z5 at HO_4 g1 HB y9 T8 b0 T9 HX318_3 HX319_3 j8 j9 y0 g9 d0 d3 d4 y1 hHeld ⊢
    refine p_ 0 17 ?_
    refine p_ 1 18 ?_
    refine p_ 2 19 ?_
    refine p_ 3 20 ?_
    refine p_ 4 21 ?_
    refine p_ 5 22 ?_
    refine p_ 6 23 ?_
    refine p_ 8 25 ?_
    refine t_ 7 24 ?_
    refine t_ 9 26 ?_
    refine p_ 10 27 ?_
    refine p_ 11 28 ?_
    refine p_ 12 29 ?_
    refine p_ 13 30 ?_
    refine p_ 14 31 ?_
    refine p_ 15 32 ?_
    refine p_ 16 33 ?_
    refine p_ 18 35 ?_
    refine t_ 17 34 ?_
    refine t_ 19 36 ?_
    refine p_ 20 37 ?_
    refine p_ 21 38 ?_
    refine dZ (db HT_.out (by kernel_rfl)) ?_
    try go_wp2
    (try rw[← j0]);(try rw[← j6]);skip
    go_meet
    case rel=>exact⟨_,((((ao x4_1 (g5)).f1)==((ae l0 g0).f1))),(by first|rfl|(simp;done)|(simp only[← j0]<;>(first|rfl|simp))|(simp[*];done)),(by first|exact H'|(rw[j0];exact H')|(rw[j6];exact H')),jl_ HK1,⟨kS_ HO_4.out⟩,⟨bz_⟩,⟨aD⟩⟩
   case rest=>
    clear HC5
    try clear c3
    obtain⟨kq,b5,rfl,HA,HJ4,HO_4,g1,HB⟩:=hcut
    cases kq with
    | zero=>exact absurd HA.out (by simp[av.j1])
    | succ kj4=>
     have H:=HA.out;clear HA;simp only[av.j1]at H
     by_cases f9:b5=true
     case neg=>
      replace f9:=Bool.eq_false_iff.mpr f9;subst f9;rw[if_neg ff_]at H;obtain⟨b8,d7⟩:∃ y_:List ByteArray,y_=(([((ae l0 g0).f3)]:List ByteArray)):=⟨_,rfl⟩;rw[← d7]at H;have T0:=a0_ d7;clear d7
      by_cases T1:x4_1.length<2513169434916
      case neg=>
       rw[if_neg T1]at H;exact absurd H (by simp)
      rw[if_pos T1]at H;have G7:=a0_ T1;clear T1;obtain⟨Q1,d8⟩:∃ y_:List (S83),y_=(x4_1 ++ [(⟨((ae l0 g0).f0),((ae l0 g0).f1),((ae l0 g0).f2),b8⟩:S83)]):=⟨_,rfl⟩;rw[← d8]at H;have G8:=a0_ d8;clear d8;have H':=a0_ H;clear H;obtain⟨_,_,_,_,_,_,_,_⟩:=cY g1.out;go_wp2_with (first|((with_reducible refine ax (N:=69) rfl ?_);refine ls_ 69 9 ([((ae l0 g0).f3)]:List ByteArray) ?_;intro Y9 Z6 b1 hb hg_ hnew_;clear hg_ hnew_;(first|rw[← T0.out]at b1|(simp only[Int.reduceToNat]at b1;rw[← T0.out]at b1));replace HO_4:=a0_ (Kd.S_elder' (by(with_reducible repeat(first|apply Kd.S_alloc|apply Kd.S_drewN|apply Kd.S_drew));exact HO_4.out) (Kd.R_base b1) hb);have b6:=a0_ (Kd.R_lower b1 (aj aD));replace g1:=a0_ (bq g1 hb);replace HB:=a0_ (aa aD hb);clear hb b1;obtain⟨V4,V5,Q2⟩:=Kd.R_slice b6.out;subst Q2)|((with_reducible refine bz (b:=.append) (xs:=#[.tmp 60,.tmp 71]) rfl ?_);at_builtin;refine Kd.S_append k83 (w0:=w) w.heap.size rfl (.tmp 60) (.tmp 71) 30 83 (.agg #[(.string ⟨#[]⟩),(.int .i64 0),(.int .i64 0),(.slice none 0 0)]) 56 rfl Tryz.underlying30 rC rfl (by decide) (by omega) (.slice Ao8 x4_1.length co8) x4_1 (⟨((ae l0 g0).f0),((ae l0 g0).f1),((ae l0 g0).f2),b8⟩:S83) [.string ((ae l0 g0).f0),.int .i64 ((ae l0 g0).f1),.int .i64 ((ae l0 g0).f2),.slice V4 b8.length V5] (fun _=>True) (fun k_=>some k_=(.slice V4 b8.length V5:Value).ownBlock) rfl rfl ?aP (fun k_ hk_=>((Kd.R_mono (ok':=fun k_=>((fun _=>True)) k_∧nw_ k_ Ao8 x4_1.length co8) (Kd.R_apart' (b6.out) (Kd.S_typed HO_4.out) (by decide)) (fun k_ hk=>⟨trivial,hk.2⟩))).1 k_ hk_.symm) ?aF ?aO ?aB ?aS ?aL ?_;(case aP=>exact nK _ _ _ (⟨((ae l0 g0).f0),((ae l0 g0).f1),((ae l0 g0).f2),b8⟩:S83) (Kd.R_mono (Kd.R_tight rfl (Kd.R_mono (ok':=fun k_=>((fun _=>True)) k_∧nw_ k_ Ao8 x4_1.length co8) (Kd.R_apart' (b6.out) (Kd.S_typed HO_4.out) (by decide)) (fun k_ hk=>⟨trivial,hk.2⟩))) (fun _ h_=>h_)));(case aB=>exact aD);(case aF=>exact(fun _ _=>trivial));(case aO=>exact(by(with_reducible repeat(first|apply Kd.S_alloc|apply Kd.S_drewN|apply Kd.S_drew));exact Kd.S_mono HO_4.out (fun k_ hk=>⟨trivial,fun e_=>hk.2 e_⟩)));(case aS=>exact(aj aD));(case aL=>have:=G7.out;omega);intro Z0 Z7 ho hb hg hat;rw[← G8.out]at ho;replace g1:=a0_ (cp (g:=g4) (o:=.cells #[.string ((ae l0 g0).f0),.int .i64 ((ae l0 g0).f1),.int .i64 ((ae l0 g0).f2),.string ((ae l0 g0).f3)] 45 (0,0)) (kB_ g1.out) hg (Kd.S_ne HO_4.out g1.out (by decide)));replace HB:=a0_ (hb);have G9:=a0_ (ho);clear HO_4 b6;clear ho hb hg hat));go_roundg kj4
      case measure=>have:=HK1.out;have:=HJ4.out;omega
      case rel=>exact⟨(Q1),(wrap64 (g0+1)),rs_,H',jm_ HK1 HJ4,⟨kS_ G9.out⟩,⟨aD⟩⟩
     subst f9;rw[if_pos rfl]at H;obtain⟨g2,j6⟩:∃ j_:Int,(wrap64 ((x4_1.length:Int)-1))=j_:=⟨_,rfl⟩
     (first|rw[j6]at H|simp only[j6]at H)
     have D8:(IntKind.i64.wrap ((x4_1.length:Int)-1))=g2:=(bu _).trans j6
     by_cases T2:0≤(g2)
     case neg=>
      rw[if_neg T2]at H;exact absurd H (by simp)
     rw[if_pos T2]at H;have Y5:=decide_eq_true T2;clear T2
     by_cases T3:(g2)<(x4_1.length:Int)
     case neg=>
      rw[if_neg T3]at H;exact absurd H (by simp)
     rw[if_pos T3]at H;have Y6:=decide_eq_true T3;clear T3
     by_cases b9:((ao x4_1 (g2)).f2)=((ae l0 g0).f2)
     case neg=>
      rw[if_neg b9]at H;have J0:=beq_eq_false_iff_ne.mpr b9;have J1:=bne_iff_ne.mpr b9;simp only[Option.some.injEq,Prod.mk.injEq]at H;obtain⟨rfl,rfl⟩:=H
      try go_wp2
      replace HO_4:=a0_ (Kd.S_drew HO_4.out);replace g1:=a0_ (az g1.out);replace HB:=a0_ (bp HB.out);have y7:0≤((g2):Int):=dr;have y8:(g2)<(x4_1.length:Int):=dr;obtain⟨T4,V6,V7,z8,j2,j3,j4,g7,hl320_3,hi320_3⟩:=gT (Kd.S_reads' HO_4.out).2.2 (g2) y7 y8;cases z8;obtain⟨ce320,hce320,hMe320,hcc320⟩:=Kd.S_get HO_4.out z83 (g2) y7 (by first|exact y8|exact dr|(have e_:=(Kd.S_reads' HO_4.out).1;omega));obtain⟨ve320_3,rfl,ge320_3⟩:=fo hMe320;have g8:=hcc320 3 _ rfl;rw[eh _ _ 3 (by omega)]at g8;replace g8:=Option.some.inj (g8.symm.trans g7);rw[g8]at ge320_3;have j5:=a0_ (show Kd.R Kd.string 9 _ _ _ _ ((ao x4_1 (g2)).f3)from ge320_3);clear g8 ge320_3;have HX320_3:=a0_ g7;clear hcc320 hce320;have j7:=a0_ hi320_3;have V0:=a0_ hl320_3;clear hi320_3 hl320_3;replace y7:=eq_true y7;replace y8:=eq_true y8
      refine fN 8 [] (cb_ g1.out (e4_ j2 j3 j4 g7)) (fun hHeld=>?_);refine ck av.tab7 av.bits7 (fun HT_ HW_=>?_)
      generalize wc.drew=Z8 at HO_4 g1 HB j5 j7 HX320_3 j2 j3 j4 g7 hHeld ⊢
      refine p_ 0 39 ?_
      refine p_ 1 40 ?_
      refine p_ 2 41 ?_
      refine p_ 3 42 ?_
      refine p_ 5 44 ?_
      refine t_ 4 43 ?_
      refine t_ 6 45 ?_
      refine p_ 7 46 ?_
      refine dZ (db HT_.out (by kernel_rfl)) ?_
      try go_wp2
      go_ret2;exact⟨_,by first|rfl|(simp[bY,bZ]<;>rfl)|(simp only[← j6];first|rfl|(simp[bY,bZ]<;>rfl))|(simp[*,bY,bZ]<;>rfl),by first|exact Kd.S_nil _ _ _ _ _|exact Kd.N_nil _ _ _ _ _|exact Kd.V_nil _ _ _ _ _|exact Kd.Q_nil _ _ _ _ _|exact Kd.R_nil _ _ _ _ _,aD⟩
     rw[if_pos b9]at H;have J0:=beq_iff_eq.mpr b9;have J1:=bne_eq_false_iff_eq.mpr b9;clear b9
     by_cases T5:((ao x4_1 (g2)).f3).length<8796093022208
     case neg=>
      rw[if_neg T5]at H;exact absurd H (by simp)
     rw[if_pos T5]at H;have J2:=a0_ T5;clear T5;obtain⟨d9,z0⟩:∃ y_:List ByteArray,y_=(((ao x4_1 (g2)).f3) ++ [((ae l0 g0).f3)]):=⟨_,rfl⟩;rw[← z0]at H;have J3:=a0_ z0;clear z0;obtain⟨Q3,z1⟩:∃ y_:List (S83),y_=(x4_1.set ((g2):Int).toNat (⟨(ao x4_1 (g2)).f0,(ao x4_1 (g2)).f1,(ao x4_1 (g2)).f2,d9⟩:S83)):=⟨_,rfl⟩;rw[← z1]at H;have J4:=a0_ z1;clear z1;have H':=a0_ H;clear H
     try go_wp2
     replace HO_4:=a0_ (Kd.S_drew HO_4.out);replace g1:=a0_ (az g1.out);replace HB:=a0_ (bp HB.out);have y7:0≤((g2):Int):=dr;have y8:(g2)<(x4_1.length:Int):=dr;obtain⟨T4,V6,V7,z8,j2,j3,j4,g7,hl320_3,hi320_3⟩:=gT (Kd.S_reads' HO_4.out).2.2 (g2) y7 y8;cases z8;obtain⟨ce320,hce320,hMe320,hcc320⟩:=Kd.S_get HO_4.out z83 (g2) y7 (by first|exact y8|exact dr|(have e_:=(Kd.S_reads' HO_4.out).1;omega));obtain⟨ve320_3,rfl,ge320_3⟩:=fo hMe320;have g8:=hcc320 3 _ rfl;rw[eh _ _ 3 (by omega)]at g8;replace g8:=Option.some.inj (g8.symm.trans g7);rw[g8]at ge320_3;have j5:=a0_ (show Kd.R Kd.string 9 _ _ _ _ ((ao x4_1 (g2)).f3)from ge320_3);clear g8 ge320_3;have HX320_3:=a0_ g7;clear hcc320 hce320;have j7:=a0_ hi320_3;have V0:=a0_ hl320_3;clear hi320_3 hl320_3;replace y7:=eq_true y7;replace y8:=eq_true y8
     refine fN 8 [] (cb_ g1.out (e4_ j2 j3 j4 g7)) (fun hHeld=>?_);refine ck av.tab7 av.bits7 (fun HT_ HW_=>?_)
     generalize wc.drew=D9 at HO_4 g1 HB j5 j7 HX320_3 j2 j3 j4 g7 hHeld ⊢
     refine p_ 0 39 ?_
     refine p_ 1 40 ?_
     refine p_ 2 41 ?_
     refine p_ 3 42 ?_
     refine p_ 5 44 ?_
     refine t_ 4 43 ?_
     refine t_ 6 45 ?_
     refine p_ 7 46 ?_
     refine dZ (db HT_.out (by kernel_rfl)) ?_
     try go_wp2
     replace HO_4:=a0_ (Kd.S_drew HO_4.out);replace j5:=a0_ (Kd.R_drew j5.out);replace g1:=a0_ (az g1.out);replace j7:=a0_ (Kd.C_drew j7.out);replace HB:=a0_ (bp HB.out);have z2:0≤((g2):Int):=dr;have z3:(g2)<(x4_1.length:Int):=dr;obtain⟨J5,z5,z6,Q4,b2,b3,b4,y3,hl321_3,hi321_3⟩:=gT (Kd.S_reads' HO_4.out).2.2 (g2) z2 z3;obtain rfl:T4=J5:=(by injection Q4);obtain⟨ce321,hce321,hMe321,hcc321⟩:=Kd.S_get HO_4.out z83 (g2) z2 (by first|exact z3|exact dr|(have e_:=(Kd.S_reads' HO_4.out).1;omega));obtain⟨ve321_3,rfl,ge321_3⟩:=fo hMe321;have y4:=hcc321 3 _ rfl;rw[eh _ _ 3 (by omega)]at y4;replace y4:=Option.some.inj (y4.symm.trans y3);rw[y4]at ge321_3;have g3:=a0_ (show Kd.R Kd.string 9 _ _ _ _ ((ao x4_1 (g2)).f3)from ge321_3);clear y4 ge321_3;have HX321_3:=a0_ y3;clear hcc321 hce321;have V1:=a0_ hi321_3;have D2:=a0_ hl321_3;clear hi321_3 hl321_3;replace z2:=eq_true z2;replace z3:=eq_true z3;obtain⟨go29,Z1,V8,V9,gl29,cl29,G0⟩:=Kd.S_form HO_4.out (by have h_:((g2):Int)<((x4_1.length:Int):Int):=dr;have h2_:0≤((g2):Int):=(dr);omega)
     (first|cases V8|(injection V8 with ea_ en_ ec_;(first|subst ea_|(injection ea_ with ea_;subst ea_));subst ec_;clear en_))
     have GB29:=a0_ V9;have GG29:=a0_ G0;clear V9 gl29 G0
     (first|simp only[dj]at j2|skip)
     (first|simp only[dj]at j3|skip)
     (first|simp only[dj]at j4|skip)
     (first|simp only[dj]at g7|skip)
     (first|simp only[dj]at b2|skip)
     (first|simp only[dj]at b3|skip)
     (first|simp only[dj]at b4|skip)
     (first|simp only[dj]at y3|skip)
     obtain⟨oki29,ce29,hcl29,hM29,hcc29,_,_,hH29⟩:=Kd.S_elem HO_4.out z83 ((g2):Int) (dr) (by have h_:((g2):Int)<((x4_1.length:Int):Int):=dr;first|exact h_|(have e_:=(Kd.S_reads' HO_4.out).1;omega)|simpa using h_);obtain⟨ve29_3,rfl,ge29_3⟩:=fo hM29;have z4:=hcc29 3 _ rfl;have hX29:=HX321_3.out
     (try simp only[dj]at hX29)
     (try simp only[Nat.add_zero]at z4)
     replace z4:=Option.some.inj (z4.symm.trans hX29);subst z4;clear hX29 hcc29 hcl29;have UU29:=a0_ (show Kd.R Kd.string 9 _ w.heap.size oki29 (.slice z5 ((ao x4_1 (g2)).f3).length z6) ((ao x4_1 (g2)).f3)from ge29_3);have HH29:=a0_ hH29;have HN29:=a0_ (Kd.S_reads' HO_4.out).1;clear hH29 ge29_3
     refine fN 14 [13] (cb_ g1.out (e4_ b2 b3 b4 y3)) (fun hHeld=>?_);refine ck av.tab9 av.bits9 (fun HT_ HW_=>?_)
     generalize D9.drew=Y0 at HO_4 j5 g1 j7 HB GG29 HH29 g3 V1 HX321_3 UU29 j2 j3 j4 g7 b2 b3 b4 y3 hHeld ⊢
     refine p_ 0 47 ?_
     refine p_ 1 48 ?_
     refine p_ 2 49 ?_
     refine p_ 3 50 ?_
     refine p_ 4 51 ?_
     refine p_ 5 52 ?_
     refine p_ 7 54 ?_
     refine t_ 6 53 ?_
     refine t_ 8 55 ?_
     refine dg 9 (some 56) (fun K hK=>?_)
     refine iV (w1:=?_) (v:=?_) (by rfl) rfl ?_ ?_
     rotate_left 2
     · go_simp
       constructor
       ·rfl
       ·rfl
     refine hK.out _ _ ⟨(af (aE g1.out _) 0).trans rfl,(af (aE g1.out _) 1).trans rfl,(af (aE g1.out _) 2).trans rfl,(af (aE g1.out _) 3).trans rfl,(World.cell?_alloc_lt _ _ _ (World.block_lt_of_cell? _ _ (hHeld.2.2.2.2.1))).trans (hHeld.2.2.2.2.1),(World.cell?_alloc_lt _ _ _ (World.block_lt_of_cell? _ _ (hHeld.2.2.2.2.2.1))).trans (hHeld.2.2.2.2.2.1),(World.cell?_alloc_lt _ _ _ (World.block_lt_of_cell? _ _ (hHeld.2.2.2.2.2.2.1))).trans (hHeld.2.2.2.2.2.2.1),(World.cell?_alloc_lt _ _ _ (World.block_lt_of_cell? _ _ (hHeld.2.2.2.2.2.2.2))).trans (hHeld.2.2.2.2.2.2.2)⟩ (fun hHeld=>?_);clear hK K
     refine cU ?_
     refine dg 10 (some 57) (fun K hK=>?_)
     refine Kd.R_append_step Kd.string (w0:=w) w.heap.size (by rfl) (.tmp 53) (.tmp 56) 78 9 (.string ⟨#[]⟩) 16 rfl Tryz.underlying78 jd rfl (by decide) (by omega) (.slice z5 ((ao x4_1 (g2)).f3).length z6) ((ao x4_1 (g2)).f3) ((ae l0 g0).f3) [.string ((ae l0 g0).f3)] (fun k_=>oki29 k_∨((fun _=>True)) k_∧Y0.heap.size≤k_) (fun _=>False) rfl rfl ?aP (fun _ hk=>hk.elim) ?aF ?aO ?aB ?aS ?aL ?_
     (case aP=>exact rfl)
     (case aB=>exact aD)
     (case aF=>exact(fun k_ hk=> .inr ⟨trivial,hk⟩))
     (case aO=>exact(kR_ (Kd.R_mono UU29.out (fun _ hk=> .inl hk))))
     (case aS=>exact(aj aD))
     (case aL=>have:=J2.out;omega)
     intro Z2 Z9 ho hb hg hat
     (first|have HS4_:=cg_ hg (hHeld.2.2.2.2.1) (by first|exact(fun e_=>((g3.out.1 _ e_.symm).2) rfl)|(rw[dc];exact(fun e_=>((g3.out.1 _ e_.symm).2) rfl)))|have HS4_:=cg_ hg (fC (hHeld.2.2.2.2.1) (by first|(rw[dc];exact Kd.S_lt HO_4.out _ rfl)|(show(Addr.add _ _).block<_;rw[dc];exact Kd.S_lt HO_4.out _ rfl)|exact Kd.S_lt HO_4.out _ rfl)) (by first|exact(fun e_=>((g3.out.1 _ e_.symm).2) rfl)|(rw[dc];exact(fun e_=>((g3.out.1 _ e_.symm).2) rfl))))
     (first|have HS5_:=cg_ hg (hHeld.2.2.2.2.2.1) (by first|exact(fun e_=>((g3.out.1 _ e_.symm).2) rfl)|(rw[dc];exact(fun e_=>((g3.out.1 _ e_.symm).2) rfl)))|have HS5_:=cg_ hg (fC (hHeld.2.2.2.2.2.1) (by first|(rw[dc];exact Kd.S_lt HO_4.out _ rfl)|(show(Addr.add _ _).block<_;rw[dc];exact Kd.S_lt HO_4.out _ rfl)|exact Kd.S_lt HO_4.out _ rfl)) (by first|exact(fun e_=>((g3.out.1 _ e_.symm).2) rfl)|(rw[dc];exact(fun e_=>((g3.out.1 _ e_.symm).2) rfl))))
     (first|have HS6_:=cg_ hg (hHeld.2.2.2.2.2.2.1) (by first|exact(fun e_=>((g3.out.1 _ e_.symm).2) rfl)|(rw[dc];exact(fun e_=>((g3.out.1 _ e_.symm).2) rfl)))|have HS6_:=cg_ hg (fC (hHeld.2.2.2.2.2.2.1) (by first|(rw[dc];exact Kd.S_lt HO_4.out _ rfl)|(show(Addr.add _ _).block<_;rw[dc];exact Kd.S_lt HO_4.out _ rfl)|exact Kd.S_lt HO_4.out _ rfl)) (by first|exact(fun e_=>((g3.out.1 _ e_.symm).2) rfl)|(rw[dc];exact(fun e_=>((g3.out.1 _ e_.symm).2) rfl))))
     (first|have HS7_:=cg_ hg (hHeld.2.2.2.2.2.2.2) (by first|exact(fun e_=>((g3.out.1 _ e_.symm).2) rfl)|(rw[dc];exact(fun e_=>((g3.out.1 _ e_.symm).2) rfl)))|have HS7_:=cg_ hg (fC (hHeld.2.2.2.2.2.2.2) (by first|(rw[dc];exact Kd.S_lt HO_4.out _ rfl)|(show(Addr.add _ _).block<_;rw[dc];exact Kd.S_lt HO_4.out _ rfl)|exact Kd.S_lt HO_4.out _ rfl)) (by first|exact(fun e_=>((g3.out.1 _ e_.symm).2) rfl)|(rw[dc];exact(fun e_=>((g3.out.1 _ e_.symm).2) rfl))))
     rw[← J3.out]at ho;have n0_:=a0_ (cp (g:=g4) (o:=.cells #[.string ((ae l0 g0).f0),.int .i64 ((ae l0 g0).f1),.int .i64 ((ae l0 g0).f2),.string ((ae l0 g0).f3)] 45 (0,0)) (kB_ g1.out) hg (Kd.R_ne g3.out g1.out (by decide)));have n1_:=a0_ (hb);have n2_:=a0_ (Kd.H_grown (Kd.H_widen (by repeat(first|exact HH29.out|refine Kd.H_alloc ?_ _|refine Kd.H_drewN ?_ _|refine Kd.H_drew ?_))) hg (fun k_ e_=> .inl (UU29.out.1 k_ e_)));have n3_:=a0_ (ho);clear g1;clear HB;clear HH29;clear HO_4;clear UU29;clear j5;clear g3;have g1:=n0_;have HB:=n1_;have HH29:=n2_;have T6:=n3_;clear n0_ n1_ n2_ n3_;clear ho hb hg hat;have F0:=t0_ ((g2));have F1:=tl_ (((g2):Int)) ((x4_1.length:Int));obtain⟨Q5,Q6,G1⟩:=Kd.R_slice T6.out
     (first|subst G1|(injection G1 with f1_ f2_ f3_;have f4_:=f1_.symm;have f5_:=f3_.symm;clear f1_ f2_ f3_;subst f4_;subst f5_))
     obtain⟨_,_,hraw31,_,_,hcc31,_⟩:=Kd.H_raw HH29.out (dr) (by have h_:((g2):Int)<((x4_1.length:Int):Int):=dr;first|exact h_|(have e_:=(HN29.out);omega)|simpa using h_);obtain⟨_,hfr31⟩:=Kd.H_at HH29.out (dr) (by have h_:((g2):Int)<((x4_1.length:Int):Int):=dr;first|exact h_|(have e_:=(HN29.out);omega)|simpa using h_);have G2:=hcc31 3 _ rfl;have hf31_0:=hfr31 3
     (try rw[show(k83).sz=4 from rfl]at G2)
     (try rw[show(k83).sz=4 from rfl]at hf31_0)
     have HP31:=Kd.S_seg0 HH29.out (dr) (by have h_:((g2):Int)<((x4_1.length:Int):Int):=dr;first|exact h_|(have e_:=(HN29.out);omega)|simpa using h_) (seg:=[.slice Q5 d9.length Q6]) (j:=3) (show 4≤4 from by decide) (x':=(⟨(ao x4_1 (g2)).f0,(ao x4_1 (g2)).f1,(ao x4_1 (g2)).f2,d9⟩:S83)) (nK _ _ _ (⟨(ao x4_1 (g2)).f0,(ao x4_1 (g2)).f1,(ao x4_1 (g2)).f2,d9⟩:S83) T6.out) (fun _ hk=>hk);clear hcc31 hfr31;have HNB317_go29:=a0_ (show g4≠go29 from by have h_:=Kd.R_ne hraw31 g1.out (by decide);intro e_;exact h_ (by rw[e_];rfl));have HS31:=HP31.1;rw[← J4.out]at HS31;have HQ31:=a0_ HS31;obtain⟨_,hgg31⟩:=Kd.R_typed hraw31 go29 rfl;have GG31_:=a0_ hgg31;clear HP31 HS31 hgg31;refine hK.out _ _ (cb_ g1.out (c1_ HS4_ (c1_ HS5_ (c1_ HS6_ (e1_ HS7_))))).out (fun hHeld=>?_);clear hK K
     refine cU ?_
     refine p_ 11 58 ?_
     refine p_ 12 59 ?_
     refine mF (i:=13) (N:=none) #[true,true,true,true,true,true,true,true,true,true,true,true,true,true] rfl rfl (fY HT_.out (by kernel_rfl)) (by decide) (fun K hK=>?_)
     refine lf (w1:=?_) (by rfl) rfl ?_ ?_
     rotate_left
     · go_simp
       rfl
     refine hK.out _ _ ?_
     clear hK K
     refine dZ (db HT_.out (by kernel_rfl)) ?_
     try go_wp2
     go_roundg kj4
     case measure=>have:=HK1.out;have:=HJ4.out;omega
     case rel=>exact⟨(Q3),(wrap64 (g0+1)),rs_,H',jm_ HK1 HJ4,⟨kS_ HQ31.out⟩,⟨ca⟩⟩
end Go.Proofs.YtiegkjimpclmaaaGreatDoor.P
namespace Go.Proofs.YtiegkjimpclmaaaGreatDoor.P
attribute [local go_sem] cG cD c_ cZ ci ch cE cH
attribute [local go_sem high] rj
def bw.l0: Nat→List (S45)→List (S45)→Int→Int→Option (Bool)
 | 0,_,_,_,_=>none
 | k+1,x0,x1,g1,g0=>if g0<g1 then(if 0≤g0 then(if g0<(x0.length:Int)then(if g0<(x1.length:Int)then(if(!((((ae x0 g0).f0).toList)==(((ae x1 g0).f0).toList))||(!(((ae x0 g0).f1)==((ae x1 g0).f1))||(!(((ae x0 g0).f2)==((ae x1 g0).f2))||(!((((ae x0 g0).f3).toList)==(((ae x1 g0).f3).toList))))))=true then(some false)else(bw.l0 k x0 x1 g1 (wrap64 (g0+1))))else(none))else(none))else(none))else(some true)
def bw.f(k:Nat)(l0:List (S45))(l1:List (S45)): Option (Bool):=if(l0.length:Int)=(l1.length:Int)then(bw.l0 k l0 l1 (l0.length:Int) 0)else(some false)
theorem bw.c(k:Nat)(A0:Option Addr)(c0:Nat)(l0:List (S45))(A1:Option Addr)(c1:Nat)(l1:List (S45))(r:Bool)(w:World)(hr0:Kd.C k45 w A0 l0.length l0)(hc0:l0.length≤c0)(hr1:Kd.C k45 w A1 l1.length l1)(hc1:l1.length≤c1)(h:bw.f k l0 l1=some r):
 Calls Tryz.prog 48 #[.slice A0 l0.length c0,.slice A1 l1.length c1] w fun e w'=>e = .returned (.bool r)∧cC w w':=by
 have hu45:=Tryz.underlying45;have HR0:=a0_ hr0;have HC0:=a0_ hc0;clear hr0 hc0;have HR1:=a0_ hr1;have HC1:=a0_ hc1;clear hr1 hc1;have H:=h;clear h;unfold bw.f at H
 by_cases c3:(l0.length:Int)=(l1.length:Int)
 case neg=>
  rw[if_neg c3]at H;have c3b0:=beq_eq_false_iff_ne.mpr c3;have c3b1:=bne_iff_ne.mpr c3
  have c3b2:(l0.length==l1.length)=false:=by first|simpa using c3|(simp at c3 ⊢;omega)
  obtain rfl:=Option.some.inj H;go_enter Tryz.func48,Tryz.ntmps48;go_wp2
  repeat(go_quiet (fail);try go_wp2)
  go_ret;exact⟨rs_,dr_⟩
 rw[if_pos c3]at H;have c3b0:=beq_iff_eq.mpr c3;have c3b1:=bne_eq_false_iff_eq.mpr c3
 have c3b2:(l0.length==l1.length)=true:=by first|simpa using c3|(simp at c3 ⊢;omega)
 clear c3;have H':=a0_ H;clear H;go_enter Tryz.func48,Tryz.ntmps48;go_wp2
 repeat(go_quiet (fail);try go_wp2)
 go_loopg [13] k (fun kq j7 w'=> ∃ (g0:Int),j7 = .int .i64 g0∧ab (bw.l0 kq l0 l1 (l0.length:Int) g0=some r)∧ab (kq≤k)∧cC w w')
 case atStart=>exact⟨(0),rs_,H',⟨Nat.le_refl _⟩,dr_⟩
 case round=>
  clear H'
  try clear c1
  try clear c3
  try clear c3b0
  try clear c3b1
  try clear c3b2
  obtain⟨g0,rfl,HA,HK1,⟨m1,rfl⟩⟩:=hrel
  cases gk with
  | zero=>exact absurd HA.out (by simp[bw.l0])
  | succ k1=>
   have H:=HA.out;clear HA;simp only[bw.l0]at H
   by_cases c4:g0<(l0.length:Int)
   case neg=>
    rw[if_neg c4]at H;have c4b0:=decide_eq_false c4;clear c4;obtain rfl:=Option.some.inj H;go_wp2
    repeat(go_quiet (fail);try go_wp2)
    go_ret;exact⟨rs_,dr_⟩
   rw[if_pos c4]at H;have c4b0:=decide_eq_true c4;clear c4
   by_cases c5:0≤g0
   case neg=>
    rw[if_neg c5]at H;exact absurd H (by simp)
   rw[if_pos c5]at H;have c5b0:=decide_eq_true c5;clear c5
   by_cases c6:g0<(l0.length:Int)
   case neg=>
    rw[if_neg c6]at H;exact absurd H (by simp)
   rw[if_pos c6]at H;have c6b0:=decide_eq_true c6;clear c6
   by_cases c7:g0<(l1.length:Int)
   case neg=>
    rw[if_neg c7]at H;exact absurd H (by simp)
   rw[if_pos c7]at H;have c7b0:=decide_eq_true c7;clear c7
   by_cases c8:(!((((ae l0 g0).f0).toList)==(((ae l1 g0).f0).toList))||(!(((ae l0 g0).f1)==((ae l1 g0).f1))||(!(((ae l0 g0).f2)==((ae l1 g0).f2))||(!((((ae l0 g0).f3).toList)==(((ae l1 g0).f3).toList))))))=true
   case pos=>
    rw[if_pos c8]at H;have c8b0:(!((((ae l0 g0).f0).toList)==(((ae l1 g0).f0).toList))||(!(((ae l0 g0).f1)==((ae l1 g0).f1))||(!(((ae l0 g0).f2)==((ae l1 g0).f2))||(!((((ae l0 g0).f3).toList)==(((ae l1 g0).f3).toList))))))=true:=c8;clear c8;obtain rfl:=Option.some.inj H;have g1:=t0_ (g0);have g2:=tl_ (g0) (l0.length);obtain⟨j5,g3,g7,g8,g9,j0⟩:=dN HR0.out g0 (of_eq_true g1) (of_eq_true g2);cases g3;have g4:=t0_ (g0);have g5:=tl_ (g0) (l1.length);obtain⟨j6,g6,j1,j2,j3,j4⟩:=dN HR1.out g0 (of_eq_true g4) (of_eq_true g5);cases g6;go_wp2
    repeat(go_quiet (fail);try go_wp2)
    go_ret;exact⟨rs_,dr_⟩
   rw[if_neg c8]at H
   have c8b0:(!((((ae l0 g0).f0).toList)==(((ae l1 g0).f0).toList))||(!(((ae l0 g0).f1)==((ae l1 g0).f1))||(!(((ae l0 g0).f2)==((ae l1 g0).f2))||(!((((ae l0 g0).f3).toList)==(((ae l1 g0).f3).toList))))))=false:=by simpa using c8
   clear c8;have H':=a0_ H;clear H;have g1:=t0_ (g0);have g2:=tl_ (g0) (l0.length);obtain⟨j5,g3,g7,g8,g9,j0⟩:=dN HR0.out g0 (of_eq_true g1) (of_eq_true g2);cases g3;have g4:=t0_ (g0);have g5:=tl_ (g0) (l1.length);obtain⟨j6,g6,j1,j2,j3,j4⟩:=dN HR1.out g0 (of_eq_true g4) (of_eq_true g5);cases g6;go_wp2
   repeat(go_quiet (fail);try go_wp2)
   go_roundg k1
   case measure=>have:=HK1.out;omega
   case rel=>exact⟨(wrap64 (g0+1)),rs_,H',jl_ HK1,dr_⟩
end Go.Proofs.YtiegkjimpclmaaaGreatDoor.P
namespace Go.Proofs.YtiegkjimpclmaaaGreatDoor.P
attribute [local go_sem] cG cD c_ cZ ci ch cE cH
def dU.f(a0:ByteArray): Option (Bool):=if a0.toList=([42]:List UInt8)then(some true)else((cx.f (a0.size:Int) 1 20).bind fun g0=>(if g0=true then((eM.f a0 (⟨#[97,98,99,100,101,102,103,104,105,106,107,108,109,110,111,112,113,114,115,116,117,118,119,120,121,122,48,49,50,51,52,53,54,55,56,57,45,95]⟩:ByteArray)).bind fun g1=>(some (g1.toList==([]:List UInt8))))else(some false)))
theorem dU.c(a0:ByteArray)(r:Bool)(w:World)(h:dU.f a0=some r):
 Calls Tryz.prog 147 #[.string a0] w fun e w'=>e = .returned (.bool r)∧Below w.heap.size w w':=by
 have HB:=a0_ (Below.refl w.heap.size w);have H:=h;clear h;unfold dU.f at H
 by_cases c2:a0.toList=([42]:List UInt8)
 case pos=>
  rw[if_pos c2]at H;have c2b0:=beq_iff_eq.mpr c2;have c2b1:=bne_eq_false_iff_eq.mpr c2;clear c2;obtain rfl:=Option.some.inj H;go_enter Tryz.func147,Tryz.ntmps147;go_wp2;go_ret;exact⟨rr_,ay⟩
 rw[if_neg c2]at H;have c2b0:=beq_eq_false_iff_ne.mpr c2;have c2b1:=bne_iff_ne.mpr c2;obtain⟨g0,A3,H⟩:=ob_ H
 by_cases c4:g0=true
 case neg=>
  replace c4:=Bool.eq_false_iff.mpr c4;subst c4;rw[if_neg ff_]at H;obtain rfl:=Option.some.inj H;go_enter Tryz.func147,Tryz.ntmps147;go_wp2_with (first|((with_reducible refine gt_ 84 rfl ?_);refine gs_ 7 Tryz.func84 #[.int .i64 (a0.size:Int),.int .i64 1,.int .i64 20] ?_;(with_reducible refine(cx.c (a0.size:Int) 1 20 false _ A3.out).mono ?_);rintro e w' ⟨rfl,⟨nd,rfl⟩⟩;refine⟨_,rfl,?_⟩));go_ret;exact⟨rr_,ay⟩
 subst c4;rw[if_pos rfl]at H;obtain⟨g1,A5,H⟩:=ob_ H;obtain rfl:=Option.some.inj H;go_enter Tryz.func147,Tryz.ntmps147;go_wp2_with (first|((with_reducible refine gt_ 84 rfl ?_);refine gs_ 7 Tryz.func84 #[.int .i64 (a0.size:Int),.int .i64 1,.int .i64 20] ?_;(with_reducible refine(cx.c (a0.size:Int) 1 20 true _ A3.out).mono ?_);rintro e w' ⟨rfl,⟨nd,rfl⟩⟩;refine⟨_,rfl,?_⟩)|(go_at_call 186;(with_reducible refine(eM.c a0 (⟨#[97,98,99,100,101,102,103,104,105,106,107,108,109,110,111,112,113,114,115,116,117,118,119,120,121,122,48,49,50,51,52,53,54,55,56,57,45,95]⟩:ByteArray) g1 _ A5.out).mono ?_);rintro e w6 ⟨rfl,hb⟩;replace HB:=a0_ (aa ay hb);clear hb));go_ret;exact⟨rr_,ay⟩
def dC.f(a0:ByteArray)(a1:ByteArray): Option (Bool):=(eG.f a0 a1).bind fun g0=>(some (decide (g0≥0)))
theorem dC.c(a0:ByteArray)(a1:ByteArray)(r:Bool)(w:World)(h:dC.f a0 a1=some r):
 Calls Tryz.prog 151 #[.string a0,.string a1] w fun e w'=>e = .returned (.bool r)∧cC w w':=by
 have H:=h;clear h;unfold dC.f at H;obtain⟨g0,A3,H⟩:=ob_ H;obtain rfl:=Option.some.inj H;go_enter Tryz.func151,Tryz.ntmps151;go_wp2_with (first|((with_reducible refine gt_ 189 rfl ?_);refine gs_ 7 Tryz.func189 #[.string a0,.string a1] ?_;(with_reducible refine(eG.c a0 a1 g0 _ A3.out).mono ?_);rintro e w' ⟨rfl,⟨nd,rfl⟩⟩;refine⟨_,rfl,?_⟩));go_ret;exact⟨rs_,dr_⟩
def aT.l0: Nat→ByteArray→List ByteArray→Int→Int→Option (ByteArray)
 | 0,_,_,_,_=>none
 | k+1,x3,x7,x8,x9=>if x9<x8 then(if 0≤x9 then(if x9<(x7.length:Int)then((some (([(((bn ByteArray.empty x7 x9).size:Int))%256]:List Int):List Int)).bind fun g0=>(if(strOfNums g0).size+(bn ByteArray.empty x7 x9).size≤9223372036854775807 then(if x3.size+((strOfNums g0)++(bn ByteArray.empty x7 x9)).size≤9223372036854775807 then(aT.l0 k (x3++((strOfNums g0)++(bn ByteArray.empty x7 x9))) x7 x8 (wrap64 (x9+1)))else(none))else(none)))else(none))else(none))else(some x3)
def aT.f(k:Nat)(a0:ByteArray): Option (ByteArray):=(df.f a0).bind fun g0=>(aT.l0 k (⟨#[]⟩:ByteArray) g0 (g0.length:Int) 0)
theorem aT.mono_l: ∀ k,(∀ y0 y1 y2 y3,LeO (aT.l0 k y0 y1 y2 y3) (aT.l0 (k+1) y0 y1 y2 y3))
 | 0=>fun _ _ _ _ r h=>by simp[aT.l0]at h
 | k+1=>by
  have ih0:=aT.mono_l k
  · intro y0 y1 y2 y3
    unfold aT.l0
    repeat' first|(with_reducible first|exact ih0 _ _ _ _|exact LeO.refl _|exact LeO.none _|refine LeO.ite ?_ ?_|refine LeO.bind ?_ (fun _=>?_))|exact LeO.none _|refine LeO.ite ?_ ?_|refine LeO.bind ?_ (fun _=>?_)
theorem aT.m: ∀ a0 k,LeO (aT.f k a0) (aT.f (k+1) a0):=by
 intro a0 k;have ih0:=aT.mono_l k;unfold aT.f
 repeat' first|(with_reducible first|exact ih0 _ _ _ _|exact LeO.refl _|exact LeO.none _|refine LeO.ite ?_ ?_|refine LeO.bind ?_ (fun _=>?_))|exact LeO.none _|refine LeO.ite ?_ ?_|refine LeO.bind ?_ (fun _=>?_)
theorem aT.c(k:Nat)(a0:ByteArray)(r:ByteArray)(w:World)(h:aT.f k a0=some r):
 Calls Tryz.prog 91 #[.string a0] w fun e w'=>e = .returned (.string r)∧Below w.heap.size w w':=by
 have HB:=a0_ (Below.refl w.heap.size w);have H:=h;clear h;unfold aT.f at H;obtain⟨g0,A2,H⟩:=ob_ H;have H':=a0_ H;clear H;go_enter Tryz.func91,Tryz.ntmps91;go_wp2_with (first|((with_reducible refine gt_ 144 rfl ?_);refine gs_ 7 Tryz.func144 #[.string a0] ?_;(with_reducible refine(df.c a0 g0 _ A2.out).mono ?_);rintro e w3 ⟨j2,rfl,ho0,hb⟩;refine⟨_,rfl,?_⟩;have g4:=a0_ (Kd.R_lower ho0 (aj ay));replace HB:=a0_ (aa ay hb);clear hb;(try clear ho0);obtain⟨Ao4,co4,eo4⟩:=Kd.R_slice g4.out;subst eo4));go_loopg [3,9] k (fun kq v3 v9 w'=> ∃ (x3_1:ByteArray) (x9_1:Int),v3 = .string x3_1∧v9 = .int .i64 x9_1∧ab (aT.l0 kq x3_1 g0 (g0.length:Int) x9_1=some r)∧ab (kq≤k)∧ab (Kd.R Kd.string 9 w' w.heap.size (fun _=>True) (.slice Ao4 g0.length co4) g0)∧ab (Below w.heap.size w w'))
 case atStart=>exact⟨((⟨#[]⟩:ByteArray)),(0),rs_,rs_,H',⟨Nat.le_refl _⟩,⟨kR_ g4.out⟩,⟨ay⟩⟩
 case round=>
  clear H';obtain⟨x3_1,x9_1,rfl,rfl,HA,HK1,HO_7,HB⟩:=hrel
  cases gk with
  | zero=>exact absurd HA.out (by simp[aT.l0])
  | succ k1=>
   have H:=HA.out;clear HA;simp only[aT.l0]at H
   by_cases c5:x9_1<(g0.length:Int)
   case neg=>
    rw[if_neg c5]at H;have c5b0:=decide_eq_false c5;clear c5;obtain rfl:=Option.some.inj H;go_wp2;go_ret;exact⟨rr_,ay⟩
   rw[if_pos c5]at H;have c5b0:=decide_eq_true c5;clear c5
   by_cases c6:0≤x9_1
   case neg=>
    rw[if_neg c6]at H;exact absurd H (by simp)
   rw[if_pos c6]at H;have c6b0:=decide_eq_true c6;clear c6
   by_cases c7:x9_1<(g0.length:Int)
   case neg=>
    rw[if_neg c7]at H;exact absurd H (by simp)
   rw[if_pos c7]at H;have c7b0:=decide_eq_true c7;clear c7;obtain⟨g1,g3⟩:∃ y_:List Int,y_=(([(((bn ByteArray.empty g0 x9_1).size:Int))%256]:List Int)):=⟨_,rfl⟩;replace H:=by_ g3 H;have g5:=a0_ g3;clear g3
   by_cases c8:(strOfNums g1).size+(bn ByteArray.empty g0 x9_1).size≤9223372036854775807
   case neg=>
    rw[if_neg c8]at H;exact absurd H (by simp)
   rw[if_pos c8]at H;have c8b0:=eq_true c8;have c8b1:=decide_eq_true c8
   try have c8b2:(9223372036854775807<(strOfNums g1).size+(bn ByteArray.empty g0 x9_1).size)=False:=eq_false (Nat.not_lt.2 c8)
   by_cases c9:x3_1.size+((strOfNums g1)++(bn ByteArray.empty g0 x9_1)).size≤9223372036854775807
   case neg=>
    rw[if_neg c9]at H;exact absurd H (by simp)
   rw[if_pos c9]at H;have c9b0:=eq_true c9;have c9b1:=decide_eq_true c9
   try have c9b2:(9223372036854775807<x3_1.size+((strOfNums g1)++(bn ByteArray.empty g0 x9_1)).size)=False:=eq_false (Nat.not_lt.2 c9)
   have H':=a0_ H;clear H;have g7:=t0_ (x9_1);have g8:=tl_ (x9_1) (g0.length);obtain⟨j1,g9,j0⟩:=Kd.at_string (Kd.R_reads' HO_7.out).2.2 x9_1 (of_eq_true g7) (of_eq_true g8);cases g9;go_wp2_with (first|((with_reducible refine ax (N:=17) rfl ?_);refine Kd.R_lit (Kd.int .u8) _ 5 ?hg (N:=17) ?hd (xs:=([(((bn ByteArray.empty g0 x9_1).size:Int))%256]:List Int)) (inner:=[.int .u8 ((((bn ByteArray.empty g0 x9_1).size:Int))%256)]) (ok:=fun _=>True) (okp:=fun _=>True) ?hr ?hp (fun _ hk=>hk) trivial (Below.refl _ _) (Nat.le_refl _) (by simp) ?_;(case hd=>rfl);(case hg=>rfl);(case hr=>first|(go_simp;done)|(go_simp;rfl));(case hp=>exact(br.one (show Kd.M (Kd.int .u8) _ _ _ ((((bn ByteArray.empty g0 x9_1).size:Int))%256) [.int .u8 ((((bn ByteArray.empty g0 x9_1).size:Int))%256)]from rfl) (br.none _ _)));intro j3 j4 g2 hb hg_ hnew_;clear hg_ hnew_;(first|rw[← g5.out]at g2|(simp only[Int.reduceToNat]at g2;rw[← g5.out]at g2));replace HO_7:=a0_ (Kd.R_below (kR_ HO_7.out) hb);have g6:=a0_ (Kd.R_lower g2 (aj ay));replace HB:=a0_ (aa ay hb);clear hb g2;have hcv12:=ea (P:=Tryz.prog) Tryz.underlying43 Tryz.underlying5 Tryz.underlying9 (Kd.own_of_R g6.out)));go_roundg k1
   case measure=>have:=HK1.out;omega
   case rel=>exact⟨(x3_1++((strOfNums g1)++(bn ByteArray.empty g0 x9_1))),(wrap64 (x9_1+1)),rs_,rs_,H',jl_ HK1,⟨kR_ HO_7.out⟩,⟨ay⟩⟩
def cy.f(a0:ByteArray)(a1:ByteArray): Option (ByteArray×ByteArray×Bool):=(cX.f a0 a1).bind fun g0=>(some (g0.1,g0.2.1,g0.2.2))
theorem cy.c(a0:ByteArray)(a1:ByteArray)(r1:ByteArray)(r2:ByteArray)(r3:Bool)(w:World)(h:cy.f a0 a1=some (r1,r2,r3)):
 Calls Tryz.prog 92 #[.string a0,.string a1] w fun e w'=>e = .returned (.tuple #[.string r1,.string r2,.bool r3])∧cC w w':=by
 have H:=h;clear h;unfold cy.f at H;obtain⟨⟨g0,g1,g2⟩,A3,H⟩:=ob_ H;simp only[Option.some.injEq,Prod.mk.injEq]at H;obtain⟨rfl,rfl,rfl⟩:=H;go_enter Tryz.func92,Tryz.ntmps92;go_wp2_with (first|((with_reducible refine gt_ 152 rfl ?_);refine gs_ 9 Tryz.func152 #[.string a0,.string a1] ?_;(with_reducible refine(cX.c a0 a1 g0 g1 g2 _ A3.out).mono ?_);rintro e w' ⟨rfl,⟨nd,rfl⟩⟩;refine⟨_,rfl,?_⟩));go_ret3;exact⟨rs_,dr_⟩
def cA.f(k:Nat)(l0:List Int)(a1:Int): Option (Bool):=(bm.f k l0 a1).bind fun g0=>(some (decide (g0≥0)))
theorem cA.c(k:Nat)(A0:Option Addr)(c0:Nat)(l0:List Int)(a1:Int)(r:Bool)(w:World)(hr0:Kd.C (Kd.int .i64) w A0 l0.length l0)(hc0:l0.length≤c0)(h:cA.f k l0 a1=some r):
 Calls Tryz.prog 197 #[.slice A0 l0.length c0,.int .i64 a1] w fun e w'=>e = .returned (.bool r)∧cC w w':=by
 have HR0:=a0_ hr0;have HC0:=a0_ hc0;clear hr0 hc0;have H:=h;clear h;unfold cA.f at H;obtain⟨g0,A3,H⟩:=ob_ H;obtain rfl:=Option.some.inj H;go_enter Tryz.func197,Tryz.ntmps197;go_wp2_with (first|((with_reducible refine gt_ 239 rfl ?_);refine gs_ 7 Tryz.func239 #[.slice A0 l0.length c0,.int .i64 a1] ?_;(with_reducible refine(bm.c k _ _ l0 a1 g0 _ ?side1 ?side2 A3.out).mono ?_);(case side1=>repeat(first|exact HR0.out|(with_reducible refine Kd.C_alloc ?_ _)|(with_reducible refine Kd.C_drewN ?_ _)|(with_reducible refine Kd.C_drew ?_)));(case side2=>exact HC0.out);rintro e w' ⟨rfl,⟨nd,rfl⟩⟩;refine⟨_,rfl,?_⟩));go_ret;exact⟨rs_,dr_⟩
def bc.l0: Nat→ByteArray→Int→Option (Bool)
 | 0,_,_=>none
 | k+1,x0,x3=>if x3<(x0.size:Int)then(if 0≤x3 then(if(bt x0 x3)≥97 then(if(bt x0 x3)≤122 then(bc.l0 k x0 (wrap64 (x3+1)))else(if(bt x0 x3)≥48 then(if(bt x0 x3)≤57 then(bc.l0 k x0 (wrap64 (x3+1)))else(if(bt x0 x3)=45 then(bc.l0 k x0 (wrap64 (x3+1)))else(if((bt x0 x3)=95)then(bc.l0 k x0 (wrap64 (x3+1)))else(some false))))else(if(bt x0 x3)=45 then(bc.l0 k x0 (wrap64 (x3+1)))else(if((bt x0 x3)=95)then(bc.l0 k x0 (wrap64 (x3+1)))else(some false)))))else(if(bt x0 x3)≥48 then(if(bt x0 x3)≤57 then(bc.l0 k x0 (wrap64 (x3+1)))else(if(bt x0 x3)=45 then(bc.l0 k x0 (wrap64 (x3+1)))else(if((bt x0 x3)=95)then(bc.l0 k x0 (wrap64 (x3+1)))else(some false))))else(if(bt x0 x3)=45 then(bc.l0 k x0 (wrap64 (x3+1)))else(if((bt x0 x3)=95)then(bc.l0 k x0 (wrap64 (x3+1)))else(some false)))))else(none))else((cj.f (x0.size:Int) 1 20).bind fun g0=>(some g0))
def bc.f(k:Nat)(a0:ByteArray): Option (Bool):=if a0.toList=([42]:List UInt8)then(some true)else(bc.l0 k a0 0)
theorem bc.mono_l: ∀ k,(∀ y0 y1,LeO (bc.l0 k y0 y1) (bc.l0 (k+1) y0 y1))
 | 0=>fun _ _ r h=>by simp[bc.l0]at h
 | k+1=>by
  have ih0:=bc.mono_l k
  · intro y0 y1
    unfold bc.l0
    repeat' first|(with_reducible first|exact ih0 _ _|exact LeO.refl _|exact LeO.none _|refine LeO.ite ?_ ?_|refine LeO.bind ?_ (fun _=>?_))|exact LeO.none _|refine LeO.ite ?_ ?_|refine LeO.bind ?_ (fun _=>?_)
theorem bc.m: ∀ a0 k,LeO (bc.f k a0) (bc.f (k+1) a0):=by
 intro a0 k;have ih0:=bc.mono_l k;unfold bc.f
 repeat' first|(with_reducible first|exact ih0 _ _|exact LeO.refl _|exact LeO.none _|refine LeO.ite ?_ ?_|refine LeO.bind ?_ (fun _=>?_))|exact LeO.none _|refine LeO.ite ?_ ?_|refine LeO.bind ?_ (fun _=>?_)
theorem bc.c(k:Nat)(a0:ByteArray)(r:Bool)(w:World)(h:bc.f k a0=some r):
 Calls Tryz.prog 200 #[.string a0] w fun e w'=>e = .returned (.bool r)∧cC w w':=by
 have H:=h;clear h;unfold bc.f at H
 by_cases c2:a0.toList=([42]:List UInt8)
 case pos=>
  rw[if_pos c2]at H;have c2b0:=beq_iff_eq.mpr c2;have c2b1:=bne_eq_false_iff_eq.mpr c2;clear c2;obtain rfl:=Option.some.inj H;go_enter Tryz.func200,Tryz.ntmps200;go_wp2;go_ret;exact⟨rs_,dr_⟩
 rw[if_neg c2]at H;have c2b0:=beq_eq_false_iff_ne.mpr c2;have c2b1:=bne_iff_ne.mpr c2;have H':=a0_ H;clear H;go_enter Tryz.func200,Tryz.ntmps200;go_wp2;go_loopg [3] k (fun kq v3 w'=> ∃ (x3_1:Int),v3 = .int .i64 x3_1∧ab (bc.l0 kq a0 x3_1=some r)∧ab (kq≤k)∧cC w w')
 case atStart=>exact⟨(0),rs_,H',⟨Nat.le_refl _⟩,dr_⟩
 case round=>
  clear H'
  try clear c2
  try clear c2b0
  try clear c2b1
  obtain⟨x3_1,rfl,HA,HK1,⟨m1,rfl⟩⟩:=hrel
  cases gk with
  | zero=>exact absurd HA.out (by simp[bc.l0])
  | succ k1=>
   have H:=HA.out;clear HA;simp only[bc.l0]at H
   by_cases c3:x3_1<(a0.size:Int)
   case neg=>
    rw[if_neg c3]at H;have c3b0:=decide_eq_false c3;clear c3;obtain⟨y8,y9,H⟩:=ob_ H;obtain rfl:=Option.some.inj H;go_wp2_with (first|((with_reducible refine gt_ 102 rfl ?_);refine gs_ 41 Tryz.func102 #[.int .i64 (a0.size:Int),.int .i64 1,.int .i64 20] ?_;(with_reducible refine(cj.c (a0.size:Int) 1 20 y8 _ y9.out).mono ?_);rintro e w' ⟨rfl,⟨nd,rfl⟩⟩;refine⟨_,rfl,?_⟩));go_ret;exact⟨rs_,dr_⟩
   rw[if_pos c3]at H;have c3b0:=decide_eq_true c3;clear c3
   by_cases c4:0≤x3_1
   case neg=>
    rw[if_neg c4]at H;exact absurd H (by simp)
   rw[if_pos c4]at H;have c4b0:=decide_eq_true c4;clear c4
   by_cases c6:(bt a0 x3_1)≥97
   case neg=>
    rw[if_neg c6]at H;have c6b0:=decide_eq_false c6;clear c6
    by_cases g8:(bt a0 x3_1)≥48
    case neg=>
     rw[if_neg g8]at H;have j0:=decide_eq_false g8;clear g8
     by_cases g0:(bt a0 x3_1)=45
     case pos=>
      rw[if_pos g0]at H;have j1:=beq_iff_eq.mpr g0;have j2:=bne_eq_false_iff_eq.mpr g0;clear g0;have H':=a0_ H;clear H;have p5:=t0_ (x3_1);have q5:=tl_ (x3_1) (a0.size);have hx5:=cK a0 x3_1;go_wp2;go_roundg k1
      case measure=>have:=HK1.out;omega
      case rel=>exact⟨(wrap64 (x3_1+1)),rs_,H',jl_ HK1,dr_⟩
     rw[if_neg g0]at H;have j1:=beq_eq_false_iff_ne.mpr g0;have j2:=bne_iff_ne.mpr g0
     by_cases g1:((bt a0 x3_1)=95)
     case neg=>
      rw[if_neg g1]at H;have j3:=beq_eq_false_iff_ne.mpr g1;have j4:=bne_iff_ne.mpr g1;obtain rfl:=Option.some.inj H;have p5:=t0_ (x3_1);have q5:=tl_ (x3_1) (a0.size);have hx5:=cK a0 x3_1;go_wp2;go_ret;exact⟨rs_,dr_⟩
     rw[if_pos g1]at H;have j3:=beq_iff_eq.mpr g1;have j4:=bne_eq_false_iff_eq.mpr g1;clear g1;have H':=a0_ H;clear H;have p5:=t0_ (x3_1);have q5:=tl_ (x3_1) (a0.size);have hx5:=cK a0 x3_1;go_wp2;go_roundg k1
     case measure=>have:=HK1.out;omega
     case rel=>exact⟨(wrap64 (x3_1+1)),rs_,H',jl_ HK1,dr_⟩
    rw[if_pos g8]at H;have j0:=decide_eq_true g8;clear g8
    by_cases g9:(bt a0 x3_1)≤57
    case pos=>
     rw[if_pos g9]at H;have j5:=decide_eq_true g9;clear g9;have H':=a0_ H;clear H;have p5:=t0_ (x3_1);have q5:=tl_ (x3_1) (a0.size);have hx5:=cK a0 x3_1;go_wp2;go_roundg k1
     case measure=>have:=HK1.out;omega
     case rel=>exact⟨(wrap64 (x3_1+1)),rs_,H',jl_ HK1,dr_⟩
    rw[if_neg g9]at H;have j5:=decide_eq_false g9;clear g9
    by_cases g2:(bt a0 x3_1)=45
    case pos=>
     rw[if_pos g2]at H;have j6:=beq_iff_eq.mpr g2;have j7:=bne_eq_false_iff_eq.mpr g2;clear g2;have H':=a0_ H;clear H;have p5:=t0_ (x3_1);have q5:=tl_ (x3_1) (a0.size);have hx5:=cK a0 x3_1;go_wp2;go_roundg k1
     case measure=>have:=HK1.out;omega
     case rel=>exact⟨(wrap64 (x3_1+1)),rs_,H',jl_ HK1,dr_⟩
    rw[if_neg g2]at H;have j6:=beq_eq_false_iff_ne.mpr g2;have j7:=bne_iff_ne.mpr g2
    by_cases g3:((bt a0 x3_1)=95)
    case neg=>
     rw[if_neg g3]at H;have j8:=beq_eq_false_iff_ne.mpr g3;have j9:=bne_iff_ne.mpr g3;obtain rfl:=Option.some.inj H;have p5:=t0_ (x3_1);have q5:=tl_ (x3_1) (a0.size);have hx5:=cK a0 x3_1;go_wp2;go_ret;exact⟨rs_,dr_⟩
    rw[if_pos g3]at H;have j8:=beq_iff_eq.mpr g3;have j9:=bne_eq_false_iff_eq.mpr g3;clear g3;have H':=a0_ H;clear H;have p5:=t0_ (x3_1);have q5:=tl_ (x3_1) (a0.size);have hx5:=cK a0 x3_1;go_wp2;go_roundg k1
    case measure=>have:=HK1.out;omega
    case rel=>exact⟨(wrap64 (x3_1+1)),rs_,H',jl_ HK1,dr_⟩
   rw[if_pos c6]at H;have c6b0:=decide_eq_true c6;clear c6
   by_cases c7:(bt a0 x3_1)≤122
   case pos=>
    rw[if_pos c7]at H;have c7b0:=decide_eq_true c7;clear c7;have H':=a0_ H;clear H;have p5:=t0_ (x3_1);have q5:=tl_ (x3_1) (a0.size);have hx5:=cK a0 x3_1;go_wp2;go_roundg k1
    case measure=>have:=HK1.out;omega
    case rel=>exact⟨(wrap64 (x3_1+1)),rs_,H',jl_ HK1,dr_⟩
   rw[if_neg c7]at H;have c7b0:=decide_eq_false c7;clear c7
   by_cases c8:(bt a0 x3_1)≥48
   case neg=>
    rw[if_neg c8]at H;have c8b0:=decide_eq_false c8;clear c8
    by_cases g4:(bt a0 x3_1)=45
    case pos=>
     rw[if_pos g4]at H;have y0:=beq_iff_eq.mpr g4;have y1:=bne_eq_false_iff_eq.mpr g4;clear g4;have H':=a0_ H;clear H;have p5:=t0_ (x3_1);have q5:=tl_ (x3_1) (a0.size);have hx5:=cK a0 x3_1;go_wp2;go_roundg k1
     case measure=>have:=HK1.out;omega
     case rel=>exact⟨(wrap64 (x3_1+1)),rs_,H',jl_ HK1,dr_⟩
    rw[if_neg g4]at H;have y0:=beq_eq_false_iff_ne.mpr g4;have y1:=bne_iff_ne.mpr g4
    by_cases g5:((bt a0 x3_1)=95)
    case neg=>
     rw[if_neg g5]at H;have y2:=beq_eq_false_iff_ne.mpr g5;have y3:=bne_iff_ne.mpr g5;obtain rfl:=Option.some.inj H;have p5:=t0_ (x3_1);have q5:=tl_ (x3_1) (a0.size);have hx5:=cK a0 x3_1;go_wp2;go_ret;exact⟨rs_,dr_⟩
    rw[if_pos g5]at H;have y2:=beq_iff_eq.mpr g5;have y3:=bne_eq_false_iff_eq.mpr g5;clear g5;have H':=a0_ H;clear H;have p5:=t0_ (x3_1);have q5:=tl_ (x3_1) (a0.size);have hx5:=cK a0 x3_1;go_wp2;go_roundg k1
    case measure=>have:=HK1.out;omega
    case rel=>exact⟨(wrap64 (x3_1+1)),rs_,H',jl_ HK1,dr_⟩
   rw[if_pos c8]at H;have c8b0:=decide_eq_true c8;clear c8
   by_cases c9:(bt a0 x3_1)≤57
   case pos=>
    rw[if_pos c9]at H;have c9b0:=decide_eq_true c9;clear c9;have H':=a0_ H;clear H;have p5:=t0_ (x3_1);have q5:=tl_ (x3_1) (a0.size);have hx5:=cK a0 x3_1;go_wp2;go_roundg k1
    case measure=>have:=HK1.out;omega
    case rel=>exact⟨(wrap64 (x3_1+1)),rs_,H',jl_ HK1,dr_⟩
   rw[if_neg c9]at H;have c9b0:=decide_eq_false c9;clear c9
   by_cases g6:(bt a0 x3_1)=45
   case pos=>
    rw[if_pos g6]at H;have y4:=beq_iff_eq.mpr g6;have y5:=bne_eq_false_iff_eq.mpr g6;clear g6;have H':=a0_ H;clear H;have p5:=t0_ (x3_1);have q5:=tl_ (x3_1) (a0.size);have hx5:=cK a0 x3_1;go_wp2;go_roundg k1
    case measure=>have:=HK1.out;omega
    case rel=>exact⟨(wrap64 (x3_1+1)),rs_,H',jl_ HK1,dr_⟩
   rw[if_neg g6]at H;have y4:=beq_eq_false_iff_ne.mpr g6;have y5:=bne_iff_ne.mpr g6
   by_cases g7:((bt a0 x3_1)=95)
   case neg=>
    rw[if_neg g7]at H;have y6:=beq_eq_false_iff_ne.mpr g7;have y7:=bne_iff_ne.mpr g7;obtain rfl:=Option.some.inj H;have p5:=t0_ (x3_1);have q5:=tl_ (x3_1) (a0.size);have hx5:=cK a0 x3_1;go_wp2;go_ret;exact⟨rs_,dr_⟩
   rw[if_pos g7]at H;have y6:=beq_iff_eq.mpr g7;have y7:=bne_eq_false_iff_eq.mpr g7;clear g7;have H':=a0_ H;clear H;have p5:=t0_ (x3_1);have q5:=tl_ (x3_1) (a0.size);have hx5:=cK a0 x3_1;go_wp2;go_roundg k1
   case measure=>have:=HK1.out;omega
   case rel=>exact⟨(wrap64 (x3_1+1)),rs_,H',jl_ HK1,dr_⟩
def aG.l0: Nat→List ByteArray→List ByteArray→List ByteArray→Int→Int→Option (Int)
 | 0,_,_,_,_,_=>none
 | k+1,x0,x1,x9,g2,g0=>if g0<g2 then(if 0≤g0 then(if g0<(x9.length:Int)then(if g0≥(x1.length:Int)then(some 1)else(if g0<(x1.length:Int)then((de.f (bn ByteArray.empty x9 g0) (bn ByteArray.empty x1 g0)).bind fun g1=>(if g1=0 then(aG.l0 k x0 x1 x9 g2 (wrap64 (g0+1)))else(some g1)))else(none)))else(none))else(none))else(if(x0.length:Int)<(x1.length:Int)then(some (-1))else(some 0))
def aG.f(k:Nat)(l0:List ByteArray)(l1:List ByteArray): Option (Int):=aG.l0 k l0 l1 l0 (l0.length:Int) 0
theorem aG.c(k:Nat)(A0:Option Addr)(c0:Nat)(l0:List ByteArray)(A1:Option Addr)(c1:Nat)(l1:List ByteArray)(r:Int)(w:World)(hr0:Kd.C Kd.string w A0 l0.length l0)(hc0:l0.length≤c0)(hr1:Kd.C Kd.string w A1 l1.length l1)(hc1:l1.length≤c1)(h:aG.f k l0 l1=some r):
 Calls Tryz.prog 178 #[.slice A0 l0.length c0,.slice A1 l1.length c1] w fun e w'=>e = .returned (.int .i64 r)∧cC w w':=by
 have HR0:=a0_ hr0;have HC0:=a0_ hc0;clear hr0 hc0;have HR1:=a0_ hr1;have HC1:=a0_ hc1;clear hr1 hc1;have H:=h;clear h;unfold aG.f at H;have H':=a0_ H;clear H;go_enter Tryz.func178,Tryz.ntmps178;go_wp2;go_loopg [11] k (fun kq j5 w'=> ∃ (g0:Int),j5 = .int .i64 g0∧ab (aG.l0 kq l0 l1 l0 (l0.length:Int) g0=some r)∧ab (kq≤k)∧cC w w')
 case atStart=>exact⟨(0),rs_,H',⟨Nat.le_refl _⟩,dr_⟩
 case round=>
  clear H'
  try clear c1
  obtain⟨g0,rfl,HA,HK1,⟨m1,rfl⟩⟩:=hrel
  cases gk with
  | zero=>exact absurd HA.out (by simp[aG.l0])
  | succ k1=>
   have H:=HA.out;clear HA;simp only[aG.l0]at H
   by_cases c3:g0<(l0.length:Int)
   case neg=>
    rw[if_neg c3]at H;have c3b0:=decide_eq_false c3;clear c3
    by_cases g1:(l0.length:Int)<(l1.length:Int)
    case neg=>
     rw[if_neg g1]at H;have j2:=decide_eq_false g1;have j3:decide (l0.length<l1.length)=false:=decide_eq_false (fun h=>g1 (Int.ofNat_lt.mpr h));clear g1;obtain rfl:=Option.some.inj H;go_wp2;go_ret;exact⟨rs_,dr_⟩
    rw[if_pos g1]at H;have j2:=decide_eq_true g1;have j3:decide (l0.length<l1.length)=true:=decide_eq_true (Int.ofNat_lt.mp g1);clear g1;obtain rfl:=Option.some.inj H;go_wp2;go_ret;exact⟨rs_,dr_⟩
   rw[if_pos c3]at H;have c3b0:=decide_eq_true c3;clear c3
   by_cases c4:0≤g0
   case neg=>
    rw[if_neg c4]at H;exact absurd H (by simp)
   rw[if_pos c4]at H;have c4b0:=decide_eq_true c4;clear c4
   by_cases c5:g0<(l0.length:Int)
   case neg=>
    rw[if_neg c5]at H;exact absurd H (by simp)
   rw[if_pos c5]at H;have c5b0:=decide_eq_true c5;clear c5
   by_cases c6:g0≥(l1.length:Int)
   case pos=>
    rw[if_pos c6]at H;have c6b0:=decide_eq_true c6;clear c6;obtain rfl:=Option.some.inj H;have g2:=t0_ (g0);have g3:=tl_ (g0) (l0.length);obtain⟨j0,g4,g5⟩:=Kd.at_string HR0.out g0 (of_eq_true g2) (of_eq_true g3);cases g4;go_wp2;go_ret;exact⟨rs_,dr_⟩
   rw[if_neg c6]at H;have c6b0:=decide_eq_false c6;clear c6
   by_cases c7:g0<(l1.length:Int)
   case neg=>
    rw[if_neg c7]at H;exact absurd H (by simp)
   rw[if_pos c7]at H;have c7b0:=decide_eq_true c7;clear c7;obtain⟨g6,A8,H⟩:=ob_ H
   by_cases c9:g6=0
   case neg=>
    rw[if_neg c9]at H;have c9b0:=beq_eq_false_iff_ne.mpr c9;have c9b1:=bne_iff_ne.mpr c9;obtain rfl:=Option.some.inj H;have g2:=t0_ (g0);have g3:=tl_ (g0) (l0.length);obtain⟨j0,g4,g5⟩:=Kd.at_string HR0.out g0 (of_eq_true g2) (of_eq_true g3);cases g4;have g7:=t0_ (g0);have g8:=tl_ (g0) (l1.length);obtain⟨j4,g9,j1⟩:=Kd.at_string HR1.out g0 (of_eq_true g7) (of_eq_true g8);cases g9;go_wp2_with (first|((with_reducible refine gt_ 208 rfl ?_);refine gs_ 26 Tryz.func208 #[.string (bn ByteArray.empty l0 g0),.string (bn ByteArray.empty l1 g0)] ?_;(with_reducible refine(de.c (bn ByteArray.empty l0 g0) (bn ByteArray.empty l1 g0) g6 _ A8.out).mono ?_);rintro e w' ⟨rfl,⟨nd,rfl⟩⟩;refine⟨_,rfl,?_⟩));go_ret;exact⟨rs_,dr_⟩
   rw[if_pos c9]at H;have c9b0:=beq_iff_eq.mpr c9;have c9b1:=bne_eq_false_iff_eq.mpr c9;clear c9;have H':=a0_ H;clear H;have g2:=t0_ (g0);have g3:=tl_ (g0) (l0.length);obtain⟨j0,g4,g5⟩:=Kd.at_string HR0.out g0 (of_eq_true g2) (of_eq_true g3);cases g4;have g7:=t0_ (g0);have g8:=tl_ (g0) (l1.length);obtain⟨j4,g9,j1⟩:=Kd.at_string HR1.out g0 (of_eq_true g7) (of_eq_true g8);cases g9;go_wp2_with (first|((with_reducible refine gt_ 208 rfl ?_);refine gs_ 26 Tryz.func208 #[.string (bn ByteArray.empty l0 g0),.string (bn ByteArray.empty l1 g0)] ?_;(with_reducible refine(de.c (bn ByteArray.empty l0 g0) (bn ByteArray.empty l1 g0) g6 _ A8.out).mono ?_);rintro e w' ⟨rfl,⟨nd,rfl⟩⟩;refine⟨_,rfl,?_⟩));go_roundg k1
   case measure=>have:=HK1.out;omega
   case rel=>exact⟨(wrap64 (g0+1)),rs_,H',jl_ HK1,dr_⟩
def fu.f(k:Nat)(a0:Int): Option (Bool):=(cI.f k (([1,2,5,6,15,16]:List Int)) a0).bind fun g0=>(some g0)
theorem fu.c(k:Nat)(a0:Int)(r:Bool)(w:World)(h:fu.f k a0=some r):
 Calls Tryz.prog 157 #[.int .i64 a0] w fun e w'=>e = .returned (.bool r)∧Below w.heap.size w w':=by
 have HB:=a0_ (Below.refl w.heap.size w);have H:=h;clear h;unfold fu.f at H;obtain⟨g3,g0⟩:∃ y_:List Int,y_=(([1,2,5,6,15,16]:List Int)):=⟨_,rfl⟩;rw[← g0]at H;have g2:=a0_ g0;clear g0;obtain⟨g4,A2,H⟩:=ob_ H;obtain rfl:=Option.some.inj H;go_enter Tryz.func157,Tryz.ntmps157;go_wp2_with (first|((with_reducible refine ax (N:=3) rfl ?_);refine Kd.R_lit (Kd.int .i64) _ 3 ?hg (N:=3) ?hd (xs:=([1,2,5,6,15,16]:List Int)) (inner:=[.int .i64 1,.int .i64 2,.int .i64 5,.int .i64 6,.int .i64 15,.int .i64 16]) (ok:=fun _=>True) (okp:=fun _=>True) ?hr ?hp (fun _ hk=>hk) trivial (Below.refl _ _) (Nat.le_refl _) (by simp) ?_;(case hd=>rfl);(case hg=>rfl);(case hr=>first|(go_simp;done)|(go_simp;rfl));(case hp=>exact(br.one (show Kd.M (Kd.int .i64) _ _ _ 1 [.int .i64 1]from rfl) (br.one (show Kd.M (Kd.int .i64) _ _ _ 2 [.int .i64 2]from rfl) (br.one (show Kd.M (Kd.int .i64) _ _ _ 5 [.int .i64 5]from rfl) (br.one (show Kd.M (Kd.int .i64) _ _ _ 6 [.int .i64 6]from rfl) (br.one (show Kd.M (Kd.int .i64) _ _ _ 15 [.int .i64 15]from rfl) (br.one (show Kd.M (Kd.int .i64) _ _ _ 16 [.int .i64 16]from rfl) (br.none _ _))))))));intro g5 w3 ho4 hb hg_ hnew_;clear hg_ hnew_;(first|rw[← g2.out]at ho4|(simp only[Int.reduceToNat]at ho4;rw[← g2.out]at ho4));have g1:=a0_ (Kd.R_lower ho4 (aj ay));replace HB:=a0_ (aa ay hb);clear hb ho4;obtain⟨Ao5,co5,eo5⟩:=Kd.R_slice g1.out;subst eo5)|((with_reducible refine gt_ 156 rfl ?_);refine gs_ 5 Tryz.func156 #[.slice Ao5 g3.length co5,.int .i64 a0] ?_;(with_reducible refine(cI.c k _ _ g3 a0 g4 _ ?side1 ?side2 A2.out).mono ?_);(case side1=>exact kD_ (Kd.R_reads' g1.out).2.2);(case side2=>exact(Kd.R_reads' g1.out).2.1);rintro e w' ⟨rfl,⟨nd,rfl⟩⟩;refine⟨_,rfl,?_⟩));go_ret;exact⟨rr_,ay⟩
mutual
def aN.j0: Nat→ByteArray→Bool→Option (Int)
 | 0,_,_=>none
 | k+1,x0,g0=>if g0=true then(some (-1))else(aN.l0 k x0 0 0)
def aN.l0: Nat→ByteArray→Int→Int→Option (Int)
 | 0,_,_,_=>none
 | k+1,x0,x3,x4=>if x4<(x0.size:Int)then(if 0≤x4 then(if(bt x0 x4)<48 then(some (-1))else(if(bt x0 x4)>57 then(some (-1))else(aN.l0 k x0 (wrap64 ((wrap64 (10*x3))+(((bt x0 x4)-48)%256))) (wrap64 (x4+1)))))else(none))else(some x3)
end
def aN.f(k:Nat)(a0:ByteArray): Option (Int):=(cj.f (a0.size:Int) 1 10).bind fun g0=>(if g0=true then(if 0<(a0.size:Int)then(if(bt a0 0)=48 then(aN.j0 k a0 (decide ((a0.size:Int)>1)))else(aN.j0 k a0 false))else(none))else(aN.j0 k a0 true))
theorem aN.mono_l: ∀ k,(∀ y0 y1,LeO (aN.j0 k y0 y1) (aN.j0 (k+1) y0 y1))∧(∀ y0 y1 y2,LeO (aN.l0 k y0 y1 y2) (aN.l0 (k+1) y0 y1 y2))
 | 0=>⟨fun _ _ r h=>by simp[aN.j0]at h,fun _ _ _ r h=>by simp[aN.l0]at h⟩
 | k+1=>by
  obtain⟨ih0,ih1⟩:=aN.mono_l k;refine⟨?_,?_⟩
  · intro y0 y1
    unfold aN.j0
    repeat' first|(with_reducible first|exact ih0 _ _|exact ih1 _ _ _|exact LeO.refl _|exact LeO.none _|refine LeO.ite ?_ ?_|refine LeO.bind ?_ (fun _=>?_))|exact LeO.none _|refine LeO.ite ?_ ?_|refine LeO.bind ?_ (fun _=>?_)
  · intro y0 y1 y2
    unfold aN.l0
    repeat' first|(with_reducible first|exact ih0 _ _|exact ih1 _ _ _|exact LeO.refl _|exact LeO.none _|refine LeO.ite ?_ ?_|refine LeO.bind ?_ (fun _=>?_))|exact LeO.none _|refine LeO.ite ?_ ?_|refine LeO.bind ?_ (fun _=>?_)
theorem aN.m: ∀ a0 k,LeO (aN.f k a0) (aN.f (k+1) a0):=by
 intro a0 k;obtain⟨ih0,ih1⟩:=aN.mono_l k;unfold aN.f
 repeat' first|(with_reducible first|exact ih0 _ _|exact ih1 _ _ _|exact LeO.refl _|exact LeO.none _|refine LeO.ite ?_ ?_|refine LeO.bind ?_ (fun _=>?_))|exact LeO.none _|refine LeO.ite ?_ ?_|refine LeO.bind ?_ (fun _=>?_)
theorem aN.c(k:Nat)(a0:ByteArray)(r:Int)(w:World)(h:aN.f k a0=some r):
 Calls Tryz.prog 117 #[.string a0] w fun e w'=>e = .returned (.int .i64 r)∧cC w w':=by
 have H:=h;clear h;unfold aN.f at H;have HC2:=a0_ H;clear H;go_enter Tryz.func117,Tryz.ntmps117;go_upto_region 1 with(fail);go_cut [18] (fun j2 wc=> ∃ (kq:Nat) (g0:Bool),j2 = .bool g0∧ab (aN.j0 kq a0 g0=some r)∧ab (kq≤k)∧cC w wc)
 case first=>
  have H:=HC2.out;clear HC2;obtain⟨g9,A3,H⟩:=ob_ H
  by_cases c4:g9=true
  case neg=>
   replace c4:=Bool.eq_false_iff.mpr c4;subst c4;rw[if_neg ff_]at H;have H':=a0_ H;clear H;go_wp2_with (first|((with_reducible refine gt_ 102 rfl ?_);refine gs_ 7 Tryz.func102 #[.int .i64 (a0.size:Int),.int .i64 1,.int .i64 10] ?_;(with_reducible refine(cj.c (a0.size:Int) 1 10 false _ A3.out).mono ?_);rintro e w' ⟨rfl,⟨nd,rfl⟩⟩;refine⟨_,rfl,?_⟩));go_meet
   case rel=>exact⟨_,(true),rs_,H',⟨by first|omega|exact Nat.le_refl _⟩,dr_⟩
  subst c4;rw[if_pos rfl]at H
  by_cases c5:0<(a0.size:Int)
  case neg=>
   rw[if_neg c5]at H;exact absurd H (by simp)
  rw[if_pos c5]at H;have c5b0:=decide_eq_true c5;have c5b1:decide (0<a0.size)=true:=decide_eq_true (by omega);clear c5
  (first|rw[c5b0]|(simp only[bu,bI];rw[c5b0])|skip)
  by_cases c7:(bt a0 0)=48
  case neg=>
   rw[if_neg c7]at H;have c7b0:=beq_eq_false_iff_ne.mpr c7;have c7b1:=bne_iff_ne.mpr c7;have H':=a0_ H;clear H;go_wp2_with (first|((with_reducible refine gt_ 102 rfl ?_);refine gs_ 7 Tryz.func102 #[.int .i64 (a0.size:Int),.int .i64 1,.int .i64 10] ?_;(with_reducible refine(cj.c (a0.size:Int) 1 10 true _ A3.out).mono ?_);rintro e w' ⟨rfl,⟨nd,rfl⟩⟩;refine⟨_,rfl,?_⟩;have p6:0≤(0:Int):=(by omega);have q6:0<a0.size:=(by have:(0:Int)<(a0.size:Int):=dr;omega);have hx6:∀ h:0<a0.size,((a0[0]'h).toNat:Int)=bt a0 0:=cK a0 0;clear p6;have qi6:(0<(a0.size:Int))=True:=eq_true (dr);replace q6:=eq_true q6));go_meet
   case rel=>exact⟨_,(false),rs_,H',⟨by first|omega|exact Nat.le_refl _⟩,dr_⟩
  rw[if_pos c7]at H;have c7b0:=beq_iff_eq.mpr c7;have c7b1:=bne_eq_false_iff_eq.mpr c7;clear c7;have H':=a0_ H;clear H;go_wp2_with (first|((with_reducible refine gt_ 102 rfl ?_);refine gs_ 7 Tryz.func102 #[.int .i64 (a0.size:Int),.int .i64 1,.int .i64 10] ?_;(with_reducible refine(cj.c (a0.size:Int) 1 10 true _ A3.out).mono ?_);rintro e w' ⟨rfl,⟨nd,rfl⟩⟩;refine⟨_,rfl,?_⟩;have p6:0≤(0:Int):=(by omega);have q6:0<a0.size:=(by have:(0:Int)<(a0.size:Int):=dr;omega);have hx6:∀ h:0<a0.size,((a0[0]'h).toNat:Int)=bt a0 0:=cK a0 0;clear p6;have qi6:(0<(a0.size:Int))=True:=eq_true (dr);replace q6:=eq_true q6));go_meet
  case rel=>exact⟨_,(decide ((a0.size:Int)>1)),rs_,H',⟨by first|omega|exact Nat.le_refl _⟩,dr_⟩
 case rest=>
  clear HC2;obtain⟨kq,g0,rfl,HA,HJ1,⟨mc1,rfl⟩⟩:=hcut
  cases kq with
  | zero=>exact absurd HA.out (by simp[aN.j0])
  | succ kj1=>
   have H:=HA.out;clear HA;simp only[aN.j0]at H
   by_cases c8:g0=true
   case pos=>
    subst c8;rw[if_pos rfl]at H;obtain rfl:=Option.some.inj H;go_wp2;go_ret;exact⟨rs_,dr_⟩
   replace c8:=Bool.eq_false_iff.mpr c8;subst c8;rw[if_neg ff_]at H;have H':=a0_ H;clear H;go_wp2;go_loopg [3,4] kj1 (fun kq v3 v4 w'=> ∃ (x3_2:Int) (x4_2:Int),v3 = .int .i64 x3_2∧v4 = .int .i64 x4_2∧ab (aN.l0 kq a0 x3_2 x4_2=some r)∧ab (kq≤kj1)∧cC w w')
   case atStart=>exact⟨(0),(0),rs_,rs_,H',⟨Nat.le_refl _⟩,dr_⟩
   case round=>
    clear H'
    try clear c1
    try clear p2
    try clear c4
    try clear c5
    try clear c5b0
    try clear c5b1
    try clear p6
    try clear q6
    try clear hx6
    try clear qi6
    try clear c7
    try clear c7b0
    try clear c7b1
    try clear c8
    try clear p2
    try clear p6
    try clear q6
    obtain⟨x3_2,x4_2,rfl,rfl,HA,HK2,⟨m2,rfl⟩⟩:=hrel
    cases gk with
    | zero=>exact absurd HA.out (by simp[aN.l0])
    | succ k2=>
     have H:=HA.out;clear HA;simp only[aN.l0]at H
     by_cases c9:x4_2<(a0.size:Int)
     case neg=>
      rw[if_neg c9]at H;have c9b0:=decide_eq_false c9;clear c9;obtain rfl:=Option.some.inj H;go_wp2;go_ret;exact⟨rs_,dr_⟩
     rw[if_pos c9]at H;have c9b0:=decide_eq_true c9;clear c9
     by_cases g3:0≤x4_2
     case neg=>
      rw[if_neg g3]at H;exact absurd H (by simp)
     rw[if_pos g3]at H;have j5:=decide_eq_true g3;clear g3
     by_cases g1:(bt a0 x4_2)<48
     case pos=>
      rw[if_pos g1]at H;have g5:=decide_eq_true g1;clear g1;obtain rfl:=Option.some.inj H;have g7:=t0_ (x4_2);have g8:=tl_ (x4_2) (a0.size);have g4:=cK a0 x4_2;go_wp2;go_ret;exact⟨rs_,dr_⟩
     rw[if_neg g1]at H;have g5:=decide_eq_false g1;clear g1
     by_cases g2:(bt a0 x4_2)>57
     case pos=>
      rw[if_pos g2]at H;have g6:=decide_eq_true g2;clear g2;obtain rfl:=Option.some.inj H;have g7:=t0_ (x4_2);have g8:=tl_ (x4_2) (a0.size);have g4:=cK a0 x4_2;have j3:=t0_ (x4_2);have j4:=tl_ (x4_2) (a0.size);have j1:=cK a0 x4_2;go_wp2;go_ret;exact⟨rs_,dr_⟩
     rw[if_neg g2]at H;have g6:=decide_eq_false g2;clear g2;have H':=a0_ H;clear H;have g7:=t0_ (x4_2);have g8:=tl_ (x4_2) (a0.size);have g4:=cK a0 x4_2;have j3:=t0_ (x4_2);have j4:=tl_ (x4_2) (a0.size);have j1:=cK a0 x4_2;have j7:=t0_ (x4_2);have j8:=tl_ (x4_2) (a0.size);have j6:=cK a0 x4_2;go_wp2;go_roundg k2
     case measure=>have:=HJ1.out;have:=HK2.out;omega
     case rel=>exact⟨(wrap64 ((wrap64 (10*x3_2))+(((bt a0 x4_2)-48)%256))),(wrap64 (x4_2+1)),rs_,rs_,H',jm_ HJ1 HK2,dr_⟩
def bR.f(s0_0:List Int)(s0_1:Int)(s0_2:Int)(l1:List ByteArray): Option (ByteArray×Int×Int):=(aM.f s0_0 s0_1 s0_2 (l1.length:Int)).bind fun g0=>(if 0≤g0.1 then(if g0.1<(l1.length:Int)then(some (bn ByteArray.empty l1 g0.1,g0.2.1,g0.2.2))else(none))else(none))
theorem bR.c(g:Nat)(s0_0:List Int)(s0_1:Int)(s0_2:Int)(A1:Option Addr)(c1:Nat)(l1:List ByteArray)(r1:ByteArray)(r2:Int)(r3:Int)(w0 w:World)(hI:ak w0 w g s0_0 s0_1 s0_2)(hB:Below w0.heap.size w0 w)(hr1:Kd.C Kd.string w A1 l1.length l1)(hc1:l1.length≤c1)(hf1:∀ ad,A1=some ad→0<l1.length→ad.block≠g)(h:bR.f s0_0 s0_1 s0_2 l1=some (r1,r2,r3)):
 Calls Tryz.prog 154 #[.pointer (some ⟨g,0,none⟩),.slice A1 l1.length c1] w fun e w'=>e = .returned (.string r1)∧ak w0 w' g s0_0 r2 r3∧Below w0.heap.size w0 w'∧aJ w w' g none:=by
 have HR1:=a0_ hr1;have HC1:=a0_ hc1;clear hr1 hc1;have HI0:=a0_ hI;have HK:=a0_ (aJ.refl w g none);have HL:=a0_ hB.size;clear hI;have HW0:=a0_ hB.size;have HB:=a0_ hB;clear hB;have H:=h;clear h;unfold bR.f at H;obtain⟨⟨g0,g5,g6⟩,A3,H⟩:=ob_ H
 by_cases c4:0≤g0
 case neg=>
  rw[if_neg c4]at H;exact absurd H (by simp)
 rw[if_pos c4]at H;have c4b0:=decide_eq_true c4;clear c4
 by_cases c5:g0<(l1.length:Int)
 case neg=>
  rw[if_neg c5]at H;exact absurd H (by simp)
 rw[if_pos c5]at H;have c5b0:=decide_eq_true c5;clear c5;simp only[Option.some.injEq,Prod.mk.injEq]at H;obtain⟨rfl,rfl,rfl⟩:=H;go_enter Tryz.func154,Tryz.ntmps154;go_wp2_with (first|((with_reducible refine gt_ 111 rfl ?_);refine gs_ 9 Tryz.func111 #[.pointer (some ⟨g,0,none⟩),.int .i64 (l1.length:Int)] ?_;(with_reducible refine(aM.c g s0_0 s0_1 s0_2 (l1.length:Int) g0 g5 g6 w0 _ ?side1 ?side2 A3.out).mono ?_);(case side1=>exact bg);(case side2=>exact ca);rintro e w6 ⟨rfl,hi,hb,hk⟩;refine⟨_,rfl,?_⟩;replace HK:=a0_ (kt_ HK hk (.inl rfl));replace HB:=a0_ (hb);replace HI0:=a0_ (hi);clear hb hk hi;have g2:0≤(g0:Int):=dr;have g3:g0<(l1.length:Int):=dr;obtain⟨g4,g7,g1⟩:=Kd.at_string HR1.out g0 g2 g3;cases g7;replace g1:=gW HK.out g1 (by first|(rw[dc];exact hf1 _ rfl (by omega))|exact hf1 _ rfl (by omega)|exact hf1 g4 rfl (by omega));replace g2:=eq_true g2;replace g3:=eq_true g3));go_ret;exact⟨rr_,bg,ca,kq_⟩
def bL.f(s0_0:List Int)(s0_1:Int)(s0_2:Int)(l1:List Int): Option (Int×Int×Int):=(aM.f s0_0 s0_1 s0_2 (l1.length:Int)).bind fun g0=>(if 0≤g0.1 then(if g0.1<(l1.length:Int)then(some (rd l1 g0.1,g0.2.1,g0.2.2))else(none))else(none))
theorem bL.c(g:Nat)(s0_0:List Int)(s0_1:Int)(s0_2:Int)(A1:Option Addr)(c1:Nat)(l1:List Int)(r1:Int)(r2:Int)(r3:Int)(w0 w:World)(hI:ak w0 w g s0_0 s0_1 s0_2)(hB:Below w0.heap.size w0 w)(hr1:Kd.C (Kd.int .i64) w A1 l1.length l1)(hc1:l1.length≤c1)(hf1:∀ ad,A1=some ad→0<l1.length→ad.block≠g)(h:bL.f s0_0 s0_1 s0_2 l1=some (r1,r2,r3)):
 Calls Tryz.prog 114 #[.pointer (some ⟨g,0,none⟩),.slice A1 l1.length c1] w fun e w'=>e = .returned (.int .i64 r1)∧ak w0 w' g s0_0 r2 r3∧Below w0.heap.size w0 w'∧aJ w w' g none:=by
 have HR1:=a0_ hr1;have HC1:=a0_ hc1;clear hr1 hc1;have HI0:=a0_ hI;have HK:=a0_ (aJ.refl w g none);have HL:=a0_ hB.size;clear hI;have HW0:=a0_ hB.size;have HB:=a0_ hB;clear hB;have H:=h;clear h;unfold bL.f at H;obtain⟨⟨g0,g5,g6⟩,A3,H⟩:=ob_ H
 by_cases c4:0≤g0
 case neg=>
  rw[if_neg c4]at H;exact absurd H (by simp)
 rw[if_pos c4]at H;have c4b0:=decide_eq_true c4;clear c4
 by_cases c5:g0<(l1.length:Int)
 case neg=>
  rw[if_neg c5]at H;exact absurd H (by simp)
 rw[if_pos c5]at H;have c5b0:=decide_eq_true c5;clear c5;simp only[Option.some.injEq,Prod.mk.injEq]at H;obtain⟨rfl,rfl,rfl⟩:=H;go_enter Tryz.func114,Tryz.ntmps114;go_wp2_with (first|((with_reducible refine gt_ 111 rfl ?_);refine gs_ 9 Tryz.func111 #[.pointer (some ⟨g,0,none⟩),.int .i64 (l1.length:Int)] ?_;(with_reducible refine(aM.c g s0_0 s0_1 s0_2 (l1.length:Int) g0 g5 g6 w0 _ ?side1 ?side2 A3.out).mono ?_);(case side1=>exact bg);(case side2=>exact ca);rintro e w6 ⟨rfl,hi,hb,hk⟩;refine⟨_,rfl,?_⟩;replace HK:=a0_ (kt_ HK hk (.inl rfl));replace HB:=a0_ (hb);replace HI0:=a0_ (hi);clear hb hk hi;have g2:0≤(g0:Int):=dr;have g3:g0<(l1.length:Int):=dr;obtain⟨g4,g7,g1⟩:=Kd.at_int HR1.out g0 g2 g3;cases g7;replace g1:=gW HK.out g1 (by first|(rw[dc];exact hf1 _ rfl (by omega))|exact hf1 _ rfl (by omega)|exact hf1 g4 rfl (by omega));replace g2:=eq_true g2;replace g3:=eq_true g3));go_ret;exact⟨rr_,bg,ca,kq_⟩
def bU.f(s0_0:List Int)(s0_1:Int)(s0_2:Int)(a1:Int): Option (Bool×Int×Int):=(aM.f s0_0 s0_1 s0_2 a1).bind fun g0=>(some ((g0.1==0),g0.2.1,g0.2.2))
theorem bU.c(g:Nat)(s0_0:List Int)(s0_1:Int)(s0_2:Int)(a1:Int)(r1:Bool)(r2:Int)(r3:Int)(w0 w:World)(hI:ak w0 w g s0_0 s0_1 s0_2)(hB:Below w0.heap.size w0 w)(h:bU.f s0_0 s0_1 s0_2 a1=some (r1,r2,r3)):
 Calls Tryz.prog 99 #[.pointer (some ⟨g,0,none⟩),.int .i64 a1] w fun e w'=>e = .returned (.bool r1)∧ak w0 w' g s0_0 r2 r3∧Below w0.heap.size w0 w'∧aJ w w' g none:=by
 have HI0:=a0_ hI;have HK:=a0_ (aJ.refl w g none);have HL:=a0_ hB.size;clear hI;have HW0:=a0_ hB.size;have HB:=a0_ hB;clear hB;have H:=h;clear h;unfold bU.f at H;obtain⟨⟨g0,g1,g2⟩,A3,H⟩:=ob_ H;simp only[Option.some.injEq,Prod.mk.injEq]at H;obtain⟨rfl,rfl,rfl⟩:=H;go_enter Tryz.func99,Tryz.ntmps99;go_wp2_with (first|((with_reducible refine gt_ 111 rfl ?_);refine gs_ 7 Tryz.func111 #[.pointer (some ⟨g,0,none⟩),.int .i64 a1] ?_;(with_reducible refine(aM.c g s0_0 s0_1 s0_2 a1 g0 g1 g2 w0 _ ?side1 ?side2 A3.out).mono ?_);(case side1=>exact bg);(case side2=>exact ca);rintro e w4 ⟨rfl,hi,hb,hk⟩;refine⟨_,rfl,?_⟩;replace HK:=a0_ (kt_ HK hk (.inl rfl));replace HB:=a0_ (hb);replace HI0:=a0_ (hi);clear hb hk hi));go_ret;exact⟨rr_,bg,ca,kq_⟩
end Go.Proofs.YtiegkjimpclmaaaGreatDoor.P
namespace Go.Proofs.YtiegkjimpclmaaaGreatDoor.P
def di.f(k:Nat)(a0_0:Int)(a0_1:Bool)(a0_2:Bool)(a0_3:Int)(a0_4:ByteArray)(a0_5:Int)(l0_6:List (S45))(l0_7:List (S45))(a1_0:Int)(a1_1:Bool)(a1_2:Bool)(a1_3:Int)(a1_4:ByteArray)(a1_5:Int)(l1_6:List (S45))(l1_7:List (S45)): Option (Bool):=if a0_0=a1_0 then(if(a0_1==a1_1)=true then(if(a0_2==a1_2)=true then(if a0_3=a1_3 then(if a0_4.toList=a1_4.toList then(if a0_5=a1_5 then((bw.f k l0_6 l1_6).bind fun g0=>(if g0=true then((bw.f k l0_7 l1_7).bind fun g1=>(some g1))else(some false)))else(some false))else(some false))else(some false))else(some false))else(some false))else(some false)
theorem di.c(k:Nat)(a0_0:Int)(a0_1:Bool)(a0_2:Bool)(a0_3:Int)(a0_4:ByteArray)(a0_5:Int)(A0_6:Option Addr)(c0_6:Nat)(l0_6:List (S45))(A0_7:Option Addr)(c0_7:Nat)(l0_7:List (S45))(a1_0:Int)(a1_1:Bool)(a1_2:Bool)(a1_3:Int)(a1_4:ByteArray)(a1_5:Int)(A1_6:Option Addr)(c1_6:Nat)(l1_6:List (S45))(A1_7:Option Addr)(c1_7:Nat)(l1_7:List (S45))(r:Bool)(w:World)(hr0_6:Kd.C k45 w A0_6 l0_6.length l0_6)(hc0_6:l0_6.length≤c0_6)(hr0_7:Kd.C k45 w A0_7 l0_7.length l0_7)(hc0_7:l0_7.length≤c0_7)(hr1_6:Kd.C k45 w A1_6 l1_6.length l1_6)(hc1_6:l1_6.length≤c1_6)(hr1_7:Kd.C k45 w A1_7 l1_7.length l1_7)(hc1_7:l1_7.length≤c1_7)(h:di.f k a0_0 a0_1 a0_2 a0_3 a0_4 a0_5 l0_6 l0_7 a1_0 a1_1 a1_2 a1_3 a1_4 a1_5 l1_6 l1_7=some r):
 Calls Tryz.prog 50 #[.agg #[.int .i64 a0_0,.bool a0_1,.bool a0_2,.int .i64 a0_3,.string a0_4,.int .i64 a0_5,.slice A0_6 l0_6.length c0_6,.slice A0_7 l0_7.length c0_7],.agg #[.int .i64 a1_0,.bool a1_1,.bool a1_2,.int .i64 a1_3,.string a1_4,.int .i64 a1_5,.slice A1_6 l1_6.length c1_6,.slice A1_7 l1_7.length c1_7]] w fun e w'=>e = .returned (.bool r)∧Below w.heap.size w w':=by
 have R6:=a0_ hr0_6;have C6:=a0_ hc0_6;have R7:=a0_ hr0_7;have C7:=a0_ hc0_7;have Q6:=a0_ hr1_6;have D6:=a0_ hc1_6;have Q7:=a0_ hr1_7;have D7:=a0_ hc1_7;clear hr0_6 hc0_6 hr0_7 hc0_7 hr1_6 hc1_6 hr1_7 hc1_7;have HA:=a0_ (Al.new w);unfold di.f at h
 by_cases c0:a0_0=a1_0<;>first|(simp only[if_pos c0]at h;have d0:=beq_iff_eq.mpr c0;have e0:=bne_eq_false_iff_eq.mpr c0;clear c0)|(simp only[if_neg c0]at h;have d0:=beq_eq_false_iff_ne.mpr c0;have e0:=bne_iff_ne.mpr c0)
 all_goals try(cases c1:a0_1==a1_1<;>simp only[c1,if_true,Bool.false_eq_true,if_false]at h)
 all_goals try(cases c2:a0_2==a1_2<;>simp only[c2,if_true,Bool.false_eq_true,if_false]at h)
 all_goals try(by_cases c3:a0_3=a1_3<;>first|(simp only[if_pos c3]at h;have d3:=beq_iff_eq.mpr c3;have e3:=bne_eq_false_iff_eq.mpr c3;clear c3)|(simp only[if_neg c3]at h;have d3:=beq_eq_false_iff_ne.mpr c3;have e3:=bne_iff_ne.mpr c3))
 all_goals try(by_cases c4:a0_4.toList=a1_4.toList<;>first|(simp only[if_pos c4]at h;have d4:=beq_iff_eq.mpr c4;have e4:=bne_eq_false_iff_eq.mpr c4;clear c4)|(simp only[if_neg c4]at h;have d4:=beq_eq_false_iff_ne.mpr c4;have e4:=bne_iff_ne.mpr c4))
 all_goals try(by_cases c5:a0_5=a1_5<;>first|(simp only[if_pos c5]at h;have d5:=beq_iff_eq.mpr c5;have e5:=bne_eq_false_iff_eq.mpr c5;clear c5)|(simp only[if_neg c5]at h;have d5:=beq_eq_false_iff_ne.mpr c5;have e5:=bne_iff_ne.mpr c5))
 all_goals try(obtain⟨t,E1,h⟩:=ob_ h;cases t<;>simp only[if_true,Bool.false_eq_true,if_false]at h)
 all_goals try(obtain⟨t,E2,h⟩:=ob_ h;cases t)
 all_goals(
  obtain rfl:=Option.some.inj h;clear h;go_enter Tryz.func50,Tryz.ntmps50
  go_wp2_with (first
   | ((with_reducible refine ax (N:=2) rfl ?_);refine cm 2 #[.int .i64 a0_0,.bool a0_1,.bool a0_2,.int .i64 a0_3,.string a0_4,.int .i64 a0_5,.slice A0_6 l0_6.length c0_6,.slice A0_7 l0_7.length c0_7] 62 (fun g hg w1 hbox hb=>?_);replace HA:=a0_ (HA.out.box hg hbox hb (by decide));clear hb hbox hg)
   | ((with_reducible refine ax (N:=3) rfl ?_);refine cm 3 #[.int .i64 a1_0,.bool a1_1,.bool a1_2,.int .i64 a1_3,.string a1_4,.int .i64 a1_5,.slice A1_6 l1_6.length c1_6,.slice A1_7 l1_7.length c1_7] 62 (fun g' hg w2 hbox hb=>?_);have HF:=a0_ (HA.out.far hg);replace HA:=a0_ (HA.out.box hg hbox hb (by decide));clear hb hbox hg;have n1:=HF.out _ (.head _);have n2:=n1.symm;obtain⟨_,_,_,_,_,_,_,_,_,_,_,_,_,_,_,_⟩:=bT (HA.out.k _ (.head _));obtain⟨_,_,_,_,_,_,_,_,_,_,_,_,_,_,_,_⟩:=bT (HA.out.k _ (.tail _ (.head _))))
   | (go_at_call 48;(with_reducible refine(bw.c k A0_6 c0_6 l0_6 A1_6 c1_6 l1_6 _ _ (kC_ R6.out HA.out.b) C6.out (kC_ Q6.out HA.out.b) D6.out E1.out).mono ?_);rintro e w' ⟨rfl,⟨nd,rfl⟩⟩)
   | (go_at_call 48;(with_reducible refine(bw.c k A0_7 c0_7 l0_7 A1_7 c1_7 l1_7 _ _ (kC_ R7.out HA.out.b) C7.out (kC_ Q7.out HA.out.b) D7.out E2.out).mono ?_);rintro e w' ⟨rfl,⟨nd,rfl⟩⟩))
  go_ret;have HB:=a0_ HA.out.b
  exact⟨rr_,aD⟩)
end Go.Proofs.YtiegkjimpclmaaaGreatDoor.P
namespace Go.Proofs.YtiegkjimpclmaaaGreatDoor.P
open Go.Shelf
def dk.f(s:ByteArray)(most:Int): Option (Int×Bool):=
 if s.size≤281474976710656 then(match Lib.atoiAll s.data.toList with
  | .ok v=>some (v,decide (0≤v∧v≤most)&&(Lib.itoa v==s.toList))
  | .range=>some (Lib.atoiSat s.data.toList,false)
  | _=>some (0,false))else none
theorem mP(n a b:Int): cx.f n a b=some (decide (a≤n∧n≤b)):=by
 unfold cx.f
 by_cases h:n≥a
 ·rw[if_pos h];congr 1;rw[decide_eq_decide];omega
 ·rw[if_neg h];congr 1;rw[eq_comm,decide_eq_false_iff_not];omega
theorem mI{w:World}{k:Nat}{os:Array Obj}: Below w.heap.size w (Go.Sort.grow (w.drewN k) os):=by
 refine⟨rfl,rfl,rfl,by simp[Go.Sort.grow,World.drewN],fun i hi=>?_⟩;show(w.heap++os)[i]? = w.heap[i]?;rw[Array.getElem?_append_left hi]
theorem bytes_below{w:World}{T:Nat}{w':World}(h:w'=w∨∃ t,w'=Lib.bytesWorld w T t): Below w.heap.size w w':=by
 rcases h with rfl|⟨t,rfl⟩
 ·exact Below.refl _ _
 ·exact Lib.bytesWorld_below _ _ _
set_option maxHeartbeats 4000000 in
theorem dk.c(a0:ByteArray)(a1:Int)(r1:Int)(r2:Bool)(w:World)(h:dk.f a0 a1=some (r1,r2))
 (hv:Vars w:=by first|assumption|(refine Vars.below (ab.out (by assumption)) ?_;repeat(first|(with_reducible first|exact Below.refl _ _|exact ab.out (by assumption)|apply bF|apply bv|apply bp)|exact ab.out (by assumption)))) :
 Calls Tryz.prog 88 #[.string a0,.int .i64 a1] w fun e w'=>e = .returned (.tuple #[.int .i64 r1,.bool r2])∧Below w.heap.size w w':=by
 unfold dk.f at h
 by_cases hs:a0.size≤281474976710656
 · rw [if_pos hs] at h
   obtain⟨tp,p,hsyn⟩:=hv.syn;obtain⟨tp2,p2,hrng⟩:=hv.rng;cases ha:Lib.atoiAll a0.data.toList
   · next v=>
     rw[ha]at h;obtain⟨rfl,rfl⟩:=Prod.mk.inj (Option.some.inj h);have hb:=Lib.atoiAll_bounds ha
     have cat:Calls Tryz.prog 86 #[.string a0] w fun e w'=>e = .returned (.tuple #[.int .i64 v,.nilIface])∧Below w.heap.size w w':=
      (Any.strconv_Atoi_ok Tryz.atoi a0 (by omega) v ha w).mono fun e w' ⟨he,hw⟩=>⟨he,bytes_below hw⟩
     have cit:∀ W,Below w.heap.size w W→Calls Tryz.prog 56 #[.int .i64 v] W fun e w'=>e = .returned (.string ⟨(Lib.itoa v).toArray⟩)∧Below w.heap.size w w':=fun W hbW=>(Any.strconv_Itoa Tryz.itoa v hb.1 hb.2 W (Vars.below hv hbW).tab).mono fun e w' ⟨he,k,os,hw⟩=>⟨he,by rw[hw];exact bj hbW hbW.size mI⟩
     have cwi:=fun W=>cx.c v 0 a1 (decide (0≤v∧v≤a1)) W (mP _ _ _)
     clear hv hsyn hrng ha h
     by_cases hw:0≤v∧v≤a1
     · rw [decide_eq_true hw, Bool.true_and]
       rw[decide_eq_true hw]at cwi;go_enter Tryz.func88,Tryz.ntmps88;go_wp2_with (first|(go_at_call 86;refine cat.mono ?_;rintro e w1 ⟨rfl,hb1⟩)|(go_at_call 84;refine(cwi _).mono ?_;rintro e w2 ⟨rfl,nd,rfl⟩;have hb2:=bv hb1 nd)|(go_at_call 56;refine(cit _ hb2).mono ?_;rintro e w3 ⟨rfl,hb3⟩));go_ret2;exact⟨rfl,hb3⟩
     · rw [decide_eq_false hw, Bool.false_and]
       rw[decide_eq_false hw]at cwi;go_enter Tryz.func88,Tryz.ntmps88;go_wp2_with (first|(go_at_call 86;refine cat.mono ?_;rintro e w1 ⟨rfl,hb1⟩)|(go_at_call 84;refine(cwi _).mono ?_;rintro e w2 ⟨rfl,nd,rfl⟩;have hb2:=bv hb1 nd));go_ret2;exact⟨rfl,hb2⟩
   · rw [ha] at h
     obtain⟨rfl,rfl⟩:=Prod.mk.inj (Option.some.inj h);have cat:=Any.strconv_Atoi_syntax_var Tryz.atoi a0 hs ha tp p w hsyn;clear hv hsyn hrng ha h;go_enter Tryz.func88,Tryz.ntmps88;go_wp2_with (go_at_call 86;refine cat.mono ?_;rintro e w1 ⟨N,rfl,hN,hc,hb⟩);go_ret2;exact⟨rfl,hb⟩
   · rw [ha] at h
     obtain⟨rfl,rfl⟩:=Prod.mk.inj (Option.some.inj h);have cat:=Any.strconv_Atoi_range_var Tryz.atoi a0 hs ha tp2 p2 w hrng;clear hv hsyn hrng ha h;go_enter Tryz.func88,Tryz.ntmps88;go_wp2_with (go_at_call 86;refine cat.mono ?_;rintro e w1 ⟨N,rfl,hN,hc,hb⟩);go_ret2;exact⟨rfl,hb⟩
 ·rw[if_neg hs]at h;cases h
end Go.Proofs.YtiegkjimpclmaaaGreatDoor.P
