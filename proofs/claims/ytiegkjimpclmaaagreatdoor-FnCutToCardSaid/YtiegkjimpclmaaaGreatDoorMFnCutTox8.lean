/- FnCutTo: part 9 of 17 of my texts for this claim, joined; the theorem stands in the last. Conditions: none beyond the statement's. -/
import Derived.Test.YtiegkjimpclmaaaGreatDoorMFnCutTox7
import Derived.Sort.Walk0
import Derived.Sort.Statements
import Derived.Lib.SlicesCompact
open Go.RowKit Go.Proofs.YtiegkjimpclmaaaGreatDoorW.PrintWords Go.Proofs.YtiegkjimpclmaaaGreatDoorW.PrintLast Go.Proofs.YtiegkjimpclmaaaGreatDoorW.PrintMore
set_option linter.unusedVariables false
set_option linter.unusedSimpArgs false
set_option maxHeartbeats 8000000
set_option maxRecDepth 100000
namespace Go.Proofs.YtiegkjimpclmaaaGreatDoor.P
attribute [local go_sem] cG cD c_ cZ ci ch cE cH
mutual
def ac.l0: Nat→ByteArray→Int→List ByteArray→List Int→Int→Int→Option (ByteArray×List Int×Int×Bool)
 | 0,_,_,_,_,_,_=>none
 | k+1,x0,x1,x8,x9,g0,g1=>if x1<(x0.size:Int)then(ac.j1 k x0 x1 x8 x9 g0 g1 (decide ((x8.length:Int)≤8)))else(ac.j1 k x0 x1 x8 x9 g0 g1 false)
def ac.j1: Nat→ByteArray→Int→List ByteArray→List Int→Int→Int→Bool→Option (ByteArray×List Int×Int×Bool)
 | 0,_,_,_,_,_,_,_=>none
 | k+1,x0,x1,x8,x9,g1,g0,g4=>if g4=true then(if 0≤x1 then(if x1<(x0.size:Int)then(if(wrap64 (bt x0 x1))=0 then(if g0<0 then((eI.f x8).bind fun g2=>(some (g2.1,x9,wrap64 (x1+1),g2.2)))else((eI.f x8).bind fun g3=>(some (g3.1,x9,g0,g3.2))))else(if(wrap64 (bt x0 x1))≥192 then(if(wrap64 (x1+1))≥(x0.size:Int)then(some ((⟨#[]⟩:ByteArray),([]:List Int),0,false))else(if g0<0 then(if 0≤(wrap64 (x1+1))then(if(wrap64 (x1+1))<(x0.size:Int)then(if(wrap64 ((wrap64 ((Int.tmod (wrap64 (bt x0 x1)) 64)*256))+(wrap64 (bt x0 (wrap64 (x1+1))))))≥g1 then(some ((⟨#[]⟩:ByteArray),([]:List Int),0,false))else(ac.l0 k x0 (wrap64 ((wrap64 ((Int.tmod (wrap64 (bt x0 x1)) 64)*256))+(wrap64 (bt x0 (wrap64 (x1+1)))))) x8 x9 (wrap64 ((wrap64 ((Int.tmod (wrap64 (bt x0 x1)) 64)*256))+(wrap64 (bt x0 (wrap64 (x1+1)))))) (wrap64 (x1+2))))else(none))else(none))else(if 0≤(wrap64 (x1+1))then(if(wrap64 (x1+1))<(x0.size:Int)then(if(wrap64 ((wrap64 ((Int.tmod (wrap64 (bt x0 x1)) 64)*256))+(wrap64 (bt x0 (wrap64 (x1+1))))))≥g1 then(some ((⟨#[]⟩:ByteArray),([]:List Int),0,false))else(ac.l0 k x0 (wrap64 ((wrap64 ((Int.tmod (wrap64 (bt x0 x1)) 64)*256))+(wrap64 (bt x0 (wrap64 (x1+1)))))) x8 x9 (wrap64 ((wrap64 ((Int.tmod (wrap64 (bt x0 x1)) 64)*256))+(wrap64 (bt x0 (wrap64 (x1+1)))))) g0))else(none))else(none))))else(if(wrap64 (bt x0 x1))≥64 then(ac.j2 k x0 x1 x8 x9 g1 g0 (wrap64 (bt x0 x1)) true)else(ac.j2 k x0 x1 x8 x9 g1 g0 (wrap64 (bt x0 x1)) (decide ((wrap64 ((wrap64 (x1+1))+(wrap64 (bt x0 x1))))>(x0.size:Int)))))))else(none))else(none))else(some ((⟨#[]⟩:ByteArray),([]:List Int),0,false))
def ac.j2: Nat→ByteArray→Int→List ByteArray→List Int→Int→Int→Int→Bool→Option (ByteArray×List Int×Int×Bool)
 | 0,_,_,_,_,_,_,_,_=>none
 | k+1,x0,x1,x8,x9,g2,g1,g0,g5=>if g5=true then(some ((⟨#[]⟩:ByteArray),([]:List Int),0,false))else(if g1<0 then(if x9.length<17592186044416 then(if 0≤(wrap64 (x1+1))then(if(wrap64 (x1+1))≤(wrap64 ((wrap64 (x1+1))+g0))then(if(wrap64 ((wrap64 (x1+1))+g0))≤(x0.size:Int)then((em.f (x0.extract ((wrap64 (x1+1)):Int).toNat ((wrap64 ((wrap64 (x1+1))+g0)):Int).toNat)).bind fun g3=>(if x8.length<8796093022208 then(ac.l0 k x0 (wrap64 (x1+(wrap64 (1+g0)))) (x8 ++ [g3]) (x9 ++ [x1]) g2 g1)else(none)))else(none))else(none))else(none))else(none))else(if 0≤(wrap64 (x1+1))then(if(wrap64 (x1+1))≤(wrap64 ((wrap64 (x1+1))+g0))then(if(wrap64 ((wrap64 (x1+1))+g0))≤(x0.size:Int)then((em.f (x0.extract ((wrap64 (x1+1)):Int).toNat ((wrap64 ((wrap64 (x1+1))+g0)):Int).toNat)).bind fun g4=>(if x8.length<8796093022208 then(ac.l0 k x0 (wrap64 (x1+(wrap64 (1+g0)))) (x8 ++ [g4]) x9 g2 g1)else(none)))else(none))else(none))else(none)))
end
def ac.f(k:Nat)(a0:ByteArray)(a1:Int): Option (ByteArray×List Int×Int×Bool):=ac.l0 k a0 a1 (([]:List ByteArray)) (([]:List Int)) a1 (-1)
theorem ac.mono_l: ∀ k,(∀ y0 y1 y2 y3 y4 y5,LeO (ac.l0 k y0 y1 y2 y3 y4 y5) (ac.l0 (k+1) y0 y1 y2 y3 y4 y5))∧(∀ y0 y1 y2 y3 y4 y5 y6,LeO (ac.j1 k y0 y1 y2 y3 y4 y5 y6) (ac.j1 (k+1) y0 y1 y2 y3 y4 y5 y6))∧(∀ y0 y1 y2 y3 y4 y5 y6 y7,LeO (ac.j2 k y0 y1 y2 y3 y4 y5 y6 y7) (ac.j2 (k+1) y0 y1 y2 y3 y4 y5 y6 y7))
 | 0=>⟨fun _ _ _ _ _ _ r h=>by simp[ac.l0]at h,fun _ _ _ _ _ _ _ r h=>by simp[ac.j1]at h,fun _ _ _ _ _ _ _ _ r h=>by simp[ac.j2]at h⟩
 | k+1=>by
  obtain⟨ih0,ih1,ih2⟩:=ac.mono_l k;refine⟨?_,?_,?_⟩
  · intro y0 y1 y2 y3 y4 y5
    unfold ac.l0
    repeat' first|(with_reducible first|exact ih0 _ _ _ _ _ _|exact ih1 _ _ _ _ _ _ _|exact ih2 _ _ _ _ _ _ _ _|exact LeO.refl _|exact LeO.none _|refine LeO.ite ?_ ?_|refine LeO.bind ?_ (fun _=>?_))|exact LeO.none _|refine LeO.ite ?_ ?_|refine LeO.bind ?_ (fun _=>?_)
  · intro y0 y1 y2 y3 y4 y5 y6
    unfold ac.j1
    repeat' first|(with_reducible first|exact ih0 _ _ _ _ _ _|exact ih1 _ _ _ _ _ _ _|exact ih2 _ _ _ _ _ _ _ _|exact LeO.refl _|exact LeO.none _|refine LeO.ite ?_ ?_|refine LeO.bind ?_ (fun _=>?_))|exact LeO.none _|refine LeO.ite ?_ ?_|refine LeO.bind ?_ (fun _=>?_)
  · intro y0 y1 y2 y3 y4 y5 y6 y7
    unfold ac.j2
    repeat' first|(with_reducible first|exact ih0 _ _ _ _ _ _|exact ih1 _ _ _ _ _ _ _|exact ih2 _ _ _ _ _ _ _ _|exact LeO.refl _|exact LeO.none _|refine LeO.ite ?_ ?_|refine LeO.bind ?_ (fun _=>?_))|exact LeO.none _|refine LeO.ite ?_ ?_|refine LeO.bind ?_ (fun _=>?_)
theorem ac.m: ∀ a0 a1 k,LeO (ac.f k a0 a1) (ac.f (k+1) a0 a1):=by
 intro a0 a1 k;obtain⟨ih0,ih1,ih2⟩:=ac.mono_l k;unfold ac.f
 repeat' first|(with_reducible first|exact ih0 _ _ _ _ _ _|exact ih1 _ _ _ _ _ _ _|exact ih2 _ _ _ _ _ _ _ _|exact LeO.refl _|exact LeO.none _|refine LeO.ite ?_ ?_|refine LeO.bind ?_ (fun _=>?_))|exact LeO.none _|refine LeO.ite ?_ ?_|refine LeO.bind ?_ (fun _=>?_)
theorem ac.c(k:Nat)(a0:ByteArray)(a1:Int)(r1:ByteArray)(r2:List Int)(r3:Int)(r4:Bool)(w:World)(h:ac.f k a0 a1=some (r1,r2,r3,r4)):
 Calls Tryz.prog 125 #[.string a0,.int .i64 a1] w fun e w'=> ∃ v1_:Value,e = .returned (.tuple #[.string r1,v1_,.int .i64 r3,.bool r4])∧Kd.R (Kd.int .i64) 3 w' w.heap.size (fun _=>True) v1_ r2∧Below w.heap.size w w':=by
 have HB:=a0_ (Below.refl w.heap.size w);have H:=h;clear h;unfold ac.f at H;obtain⟨d4,g9⟩:∃ y_:List ByteArray,y_=(([]:List ByteArray)):=⟨_,rfl⟩
 replace H:(ac.l0 k a0 a1 d4 (([]:List Int)) a1 (-1))=some (r1,r2,r3,r4):=by first|(rw[g9];with_reducible exact H)|(have H2_:=(Option.bind_some _ _).symm.trans H;rw[g9];with_reducible exact H2_)|(have H2_:=(Option.bind_some _ _).symm.trans H;with_reducible exact H2_)|with_reducible exact H|(rw[g9];exact H)|exact H
 have d7:=a0_ g9;clear g9;obtain⟨f4,j0⟩:∃ y_:List Int,y_=(([]:List Int)):=⟨_,rfl⟩
 replace H:(ac.l0 k a0 a1 d4 f4 a1 (-1))=some (r1,r2,r3,r4):=by first|(rw[j0];with_reducible exact H)|(have H2_:=(Option.bind_some _ _).symm.trans H;rw[j0];with_reducible exact H2_)|(have H2_:=(Option.bind_some _ _).symm.trans H;with_reducible exact H2_)|with_reducible exact H|(rw[j0];exact H)|exact H
 have d8:=a0_ j0;clear j0;have H':=a0_ H;clear H;go_enter Tryz.func125,Tryz.ntmps125;go_wp2_with (first|((with_reducible refine ax (N:=15) rfl ?_);(try(refine bP (by rfl) ?_;dsimp only));refine ls_ 15 9 ([]:List ByteArray) ?_;intro D7 w3 ho4 hb hg_ hnew_;clear hg_ hnew_;(first|rw[← d7.out]at ho4|(simp only[Int.reduceToNat]at ho4;rw[← d7.out]at ho4));have b4:=a0_ (Kd.R_lower ho4 (aj ay));replace HB:=a0_ (aa ay hb);clear hb ho4)|((with_reducible refine ax (N:=16) rfl ?_);(try(refine bP (by rfl) ?_;dsimp only));refine Kd.R_lit (Kd.int .i64) _ 3 ?hg (N:=16) ?hd (xs:=([]:List Int)) (inner:=[]) (ok:=fun _=>True) (okp:=fun _=>True) ?hr ?hp (fun _ hk=>hk) trivial (Below.refl _ _) (Nat.le_refl _) (by simp) ?_;(case hd=>rfl);(case hg=>rfl);(case hr=>first|(go_simp;done)|(go_simp;rfl));(case hp=>exact(br.none _ _));intro D8 w5 ho6 hb hg_ hnew_;clear hg_ hnew_;(first|rw[← d8.out]at ho6|(simp only[Int.reduceToNat]at ho6;rw[← d8.out]at ho6));replace b4:=a0_ (Kd.R_below (kR_ b4.out) hb);have f7:=a0_ (Kd.R_lower ho6 (aj ay));replace HB:=a0_ (aa ay hb);clear hb ho6));go_loopg [1,8,9,10,11] k (fun kq v1 v8 v9 G5 G6 w'=> ∃ (x1_1:Int) (x8_1:List ByteArray) (x9_1:List Int) (g1:Int) (g0:Int),v1 = .int .i64 x1_1∧G5 = .int .i64 g1∧G6 = .int .i64 g0∧ab (ac.l0 kq a0 x1_1 x8_1 x9_1 g1 g0=some (r1,r2,r3,r4))∧ab (kq≤k)∧ab (Kd.R Kd.string 9 w' w.heap.size (fun _=>True) v8 x8_1)∧ab (Kd.R (Kd.int .i64) 3 w' w.heap.size (fun _=>True) v9 x9_1)∧ab (Below w.heap.size w w'))
 case atStart=>exact⟨(a1),(d4),(f4),(a1),((-1)),rs_,rs_,rs_,H',⟨Nat.le_refl _⟩,⟨kR_ b4.out⟩,⟨kR_ f7.out⟩,⟨ay⟩⟩
 case round=>
  clear H';obtain⟨x1_1,x8_1,x9_1,g1,g0,rfl,rfl,rfl,HA,HK1,HO_8,HO_9,HB⟩:=hrel
  cases gk with
  | zero=>exact absurd HA.out (by simp[ac.l0])
  | succ k1=>
   have H:=HA.out;clear HA;simp only[ac.l0]at H;have HC7:=a0_ H;clear H;go_upto_region 3 with(fail);go_cut [26] (fun G7 wc=> ∃ (kq:Nat) (y3:Bool),G7 = .bool y3∧ab (ac.j1 kq a0 x1_1 x8_1 x9_1 g1 g0 y3=some (r1,r2,r3,r4))∧ab (kq≤k1)∧ab (Kd.R Kd.string 9 wc w.heap.size (fun _=>True) u8 x8_1)∧ab (Kd.R (Kd.int .i64) 3 wc w.heap.size (fun _=>True) u9 x9_1)∧ab (Below w.heap.size w wc))
   case first=>
    have H:=HC7.out;clear HC7
    by_cases c8:x1_1<(a0.size:Int)
    case neg=>
     rw[if_neg c8]at H;have c8b0:=decide_eq_false c8;clear c8
     (first|rw[c8b0]|(simp only[bu,bI];rw[c8b0])|skip)
     have H':=a0_ H;clear H;go_wp2;go_meet
     case rel=>exact⟨_,(false),rs_,H',jl_ HK1,⟨kR_ HO_8.out⟩,⟨kR_ HO_9.out⟩,⟨ay⟩⟩
    rw[if_pos c8]at H;have c8b0:=decide_eq_true c8;clear c8
    (first|rw[c8b0]|(simp only[bu,bI];rw[c8b0])|skip)
    have H':=a0_ H;clear H;obtain⟨Ao9,co9,eo9⟩:=Kd.R_slice HO_8.out;subst eo9;go_wp2;go_meet
    case rel=>exact⟨_,(decide ((x8_1.length:Int)≤8)),rs_,H',jl_ HK1,⟨kR_ HO_8.out⟩,⟨kR_ HO_9.out⟩,⟨ay⟩⟩
   case rest=>
    clear HC7
    try clear c1
    try clear p2
    try clear p2
    obtain⟨kq,y3,rfl,HA,HJ6,HO_8,HO_9,HB⟩:=hcut
    cases kq with
    | zero=>exact absurd HA.out (by simp[ac.j1])
    | succ kj6=>
     have H:=HA.out;clear HA;simp only[ac.j1]at H
     by_cases b7:y3=true
     case neg=>
      replace b7:=Bool.eq_false_iff.mpr b7;subst b7;rw[if_neg ff_]at H;simp only[Option.some.injEq,Prod.mk.injEq]at H;obtain⟨rfl,rfl,rfl,rfl⟩:=H;go_wp2
      refine bodyPost_ret (cQ (rs:=[.tmp 4,.tmp 5,.tmp 6,.tmp 7]) rfl (by simp) (.tmp (.tmp (.tmp (.tmp .nil))))) rfl ?_
      exact⟨_,rr_,by first|exact Kd.R_nil _ _ _ _ _|exact Kd.N_nil _ _ _ _ _|exact Kd.V_nil _ _ _ _ _|exact Kd.Q_nil _ _ _ _ _|exact Kd.S_nil _ _ _ _ _,ay⟩
     subst b7;rw[if_pos rfl]at H
     by_cases b8:0≤x1_1
     case neg=>
      rw[if_neg b8]at H;exact absurd H (by simp)
     rw[if_pos b8]at H;have f8:=decide_eq_true b8;clear b8
     by_cases b9:x1_1<(a0.size:Int)
     case neg=>
      rw[if_neg b9]at H;exact absurd H (by simp)
     rw[if_pos b9]at H;have f9:=decide_eq_true b9;clear b9
     by_cases y2:(wrap64 (bt a0 x1_1))=0
     case pos=>
      rw[if_pos y2]at H;have d9:=beq_iff_eq.mpr y2;have z0:=bne_eq_false_iff_eq.mpr y2;clear y2
      by_cases y7:g0<0
      case neg=>
       rw[if_neg y7]at H;have T0:=decide_eq_false y7;clear y7;obtain⟨⟨V3,V4⟩,G8,H⟩:=ob_ H;simp only[Option.some.injEq,Prod.mk.injEq]at H;obtain⟨rfl,rfl,rfl,rfl⟩:=H;have j3:=t0_ (x1_1);have j4:=tl_ (x1_1) (a0.size);have g8:=cK a0 x1_1;obtain⟨V5,V6,V7⟩:=Kd.R_slice HO_8.out;subst V7;go_wp2_with (first|((with_reducible refine gt_ 175 rfl ?_);refine gs_ 62 Tryz.func175 #[.slice V5 x8_1.length V6] ?_;(with_reducible refine(eI.c _ _ x8_1 V3 V4 _ ?side1 ?side2 G8.out).mono ?_);(case side1=>exact kD_ (Kd.R_reads' HO_8.out).2.2);(case side2=>exact(Kd.R_reads' HO_8.out).2.1);rintro e Y2 ⟨rfl,hb⟩;refine⟨_,rfl,?_⟩;replace HO_8:=a0_ (Kd.R_below (kR_ HO_8.out) hb);replace HO_9:=a0_ (Kd.R_below (kR_ HO_9.out) hb);replace HB:=a0_ (aa ay hb);clear hb))
       refine bodyPost_ret (cQ (rs:=[.tmp 4,.tmp 5,.tmp 6,.tmp 7]) rfl (by simp) (.tmp (.tmp (.tmp (.tmp .nil))))) rfl ?_
       exact⟨_,rr_,kR_ HO_9.out,ay⟩
      rw[if_pos y7]at H;have T0:=decide_eq_true y7;clear y7;obtain⟨⟨V8,V9⟩,G9,H⟩:=ob_ H;simp only[Option.some.injEq,Prod.mk.injEq]at H;obtain⟨rfl,rfl,rfl,rfl⟩:=H;have j3:=t0_ (x1_1);have j4:=tl_ (x1_1) (a0.size);have g8:=cK a0 x1_1;obtain⟨G0,G1,G2⟩:=Kd.R_slice HO_8.out;subst G2;go_wp2_with (first|((with_reducible refine gt_ 175 rfl ?_);refine gs_ 62 Tryz.func175 #[.slice G0 x8_1.length G1] ?_;(with_reducible refine(eI.c _ _ x8_1 V8 V9 _ ?side1 ?side2 G9.out).mono ?_);(case side1=>exact kD_ (Kd.R_reads' HO_8.out).2.2);(case side2=>exact(Kd.R_reads' HO_8.out).2.1);rintro e Y3 ⟨rfl,hb⟩;refine⟨_,rfl,?_⟩;replace HO_8:=a0_ (Kd.R_below (kR_ HO_8.out) hb);replace HO_9:=a0_ (Kd.R_below (kR_ HO_9.out) hb);replace HB:=a0_ (aa ay hb);clear hb))
      refine bodyPost_ret (cQ (rs:=[.tmp 4,.tmp 5,.tmp 6,.tmp 7]) rfl (by simp) (.tmp (.tmp (.tmp (.tmp .nil))))) rfl ?_
      exact⟨_,rr_,kR_ HO_9.out,ay⟩
     rw[if_neg y2]at H;have d9:=beq_eq_false_iff_ne.mpr y2;have z0:=bne_iff_ne.mpr y2
     by_cases y6:(wrap64 (bt a0 x1_1))≥192
     case pos=>
      rw[if_pos y6]at H;have z1:=decide_eq_true y6;clear y6
      by_cases y8:(wrap64 (x1_1+1))≥(a0.size:Int)
      case pos=>
       rw[if_pos y8]at H;have b5:=decide_eq_true y8;clear y8;simp only[Option.some.injEq,Prod.mk.injEq]at H;obtain⟨rfl,rfl,rfl,rfl⟩:=H;have j3:=t0_ (x1_1);have j4:=tl_ (x1_1) (a0.size);have g8:=cK a0 x1_1;go_wp2
       refine bodyPost_ret (cQ (rs:=[.tmp 4,.tmp 5,.tmp 6,.tmp 7]) rfl (by simp) (.tmp (.tmp (.tmp (.tmp .nil))))) rfl ?_
       exact⟨_,rr_,by first|exact Kd.R_nil _ _ _ _ _|exact Kd.N_nil _ _ _ _ _|exact Kd.V_nil _ _ _ _ _|exact Kd.Q_nil _ _ _ _ _|exact Kd.S_nil _ _ _ _ _,ay⟩
      rw[if_neg y8]at H;have b5:=decide_eq_false y8;clear y8
      by_cases y9:g0<0
      case neg=>
       rw[if_neg y9]at H;have T1:=decide_eq_false y9;clear y9;obtain⟨g2,g4⟩:∃ j_:Int,(wrap64 (x1_1+1))=j_:=⟨_,rfl⟩
       (first|rw[g4]at H|simp only[g4]at H)
       (try rw[g4]at b5)
       have J0:(IntKind.i64.wrap (x1_1+1))=g2:=(bu _).trans g4
       by_cases z2:0≤(g2)
       case neg=>
        rw[if_neg z2]at H;exact absurd H (by simp)
       rw[if_pos z2]at H;have Q1:=decide_eq_true z2;clear z2
       by_cases z3:(g2)<(a0.size:Int)
       case neg=>
        rw[if_neg z3]at H;exact absurd H (by simp)
       rw[if_pos z3]at H;have Q2:=decide_eq_true z3;clear z3
       by_cases b0:(wrap64 ((wrap64 ((Int.tmod (wrap64 (bt a0 x1_1)) 64)*256))+(wrap64 (bt a0 (g2)))))≥g1
       case pos=>
        rw[if_pos b0]at H;have T2:=decide_eq_true b0;clear b0;simp only[Option.some.injEq,Prod.mk.injEq]at H;obtain⟨rfl,rfl,rfl,rfl⟩:=H;have j3:=t0_ (x1_1);have j4:=tl_ (x1_1) (a0.size);have g8:=cK a0 x1_1;have J1:=t0_ ((g2));have J2:=tl_ ((g2)) (a0.size);have G3:=cK a0 (g2);go_wp2
        refine bodyPost_ret (cQ (rs:=[.tmp 4,.tmp 5,.tmp 6,.tmp 7]) rfl (by simp) (.tmp (.tmp (.tmp (.tmp .nil))))) rfl ?_
        exact⟨_,by first|rfl|(simp[bY,bZ]<;>rfl)|(simp only[← g4];first|rfl|(simp[bY,bZ]<;>rfl))|(simp[*,bY,bZ]<;>rfl),by first|exact Kd.R_nil _ _ _ _ _|exact Kd.N_nil _ _ _ _ _|exact Kd.V_nil _ _ _ _ _|exact Kd.Q_nil _ _ _ _ _|exact Kd.S_nil _ _ _ _ _,ay⟩
       rw[if_neg b0]at H;have T2:=decide_eq_false b0;clear b0;have H':=a0_ H;clear H;have j3:=t0_ (x1_1);have j4:=tl_ (x1_1) (a0.size);have g8:=cK a0 x1_1;have J1:=t0_ ((g2));have J2:=tl_ ((g2)) (a0.size);have G3:=cK a0 (g2);go_wp2;go_roundg kj6
       case measure=>have:=HK1.out;have:=HJ6.out;omega
       case rel=>exact⟨(wrap64 ((wrap64 ((Int.tmod (wrap64 (bt a0 x1_1)) 64)*256))+(wrap64 (bt a0 (g2))))),(x8_1),(x9_1),(wrap64 ((wrap64 ((Int.tmod (wrap64 (bt a0 x1_1)) 64)*256))+(wrap64 (bt a0 (g2))))),(g0),(by first|rfl|(simp;done)|(simp only[← g4]<;>(first|rfl|simp))|(simp[*];done)),(by first|rfl|(simp;done)|(simp only[← g4]<;>(first|rfl|simp))|(simp[*];done)),rs_,H',jm_ HK1 HJ6,⟨kR_ HO_8.out⟩,⟨kR_ HO_9.out⟩,⟨ay⟩⟩
      rw[if_pos y9]at H;have T1:=decide_eq_true y9;clear y9;obtain⟨g3,g5⟩:∃ j_:Int,(wrap64 (x1_1+1))=j_:=⟨_,rfl⟩
      (first|rw[g5]at H|simp only[g5]at H)
      (try rw[g5]at b5)
      have J3:(IntKind.i64.wrap (x1_1+1))=g3:=(bu _).trans g5
      by_cases z4:0≤(g3)
      case neg=>
       rw[if_neg z4]at H;exact absurd H (by simp)
      rw[if_pos z4]at H;have Q3:=decide_eq_true z4;clear z4
      by_cases z5:(g3)<(a0.size:Int)
      case neg=>
       rw[if_neg z5]at H;exact absurd H (by simp)
      rw[if_pos z5]at H;have Q4:=decide_eq_true z5;clear z5
      by_cases b1:(wrap64 ((wrap64 ((Int.tmod (wrap64 (bt a0 x1_1)) 64)*256))+(wrap64 (bt a0 (g3)))))≥g1
      case pos=>
       rw[if_pos b1]at H;have T3:=decide_eq_true b1;clear b1;simp only[Option.some.injEq,Prod.mk.injEq]at H;obtain⟨rfl,rfl,rfl,rfl⟩:=H;have j3:=t0_ (x1_1);have j4:=tl_ (x1_1) (a0.size);have g8:=cK a0 x1_1;have J4:=t0_ ((g3));have J5:=tl_ ((g3)) (a0.size);have G4:=cK a0 (g3);go_wp2
       refine bodyPost_ret (cQ (rs:=[.tmp 4,.tmp 5,.tmp 6,.tmp 7]) rfl (by simp) (.tmp (.tmp (.tmp (.tmp .nil))))) rfl ?_
       exact⟨_,by first|rfl|(simp[bY,bZ]<;>rfl)|(simp only[← g5];first|rfl|(simp[bY,bZ]<;>rfl))|(simp[*,bY,bZ]<;>rfl),by first|exact Kd.R_nil _ _ _ _ _|exact Kd.N_nil _ _ _ _ _|exact Kd.V_nil _ _ _ _ _|exact Kd.Q_nil _ _ _ _ _|exact Kd.S_nil _ _ _ _ _,ay⟩
      rw[if_neg b1]at H;have T3:=decide_eq_false b1;clear b1;have H':=a0_ H;clear H;have j3:=t0_ (x1_1);have j4:=tl_ (x1_1) (a0.size);have g8:=cK a0 x1_1;have J4:=t0_ ((g3));have J5:=tl_ ((g3)) (a0.size);have G4:=cK a0 (g3);go_wp2;go_roundg kj6
      case measure=>have:=HK1.out;have:=HJ6.out;omega
      case rel=>exact⟨(wrap64 ((wrap64 ((Int.tmod (wrap64 (bt a0 x1_1)) 64)*256))+(wrap64 (bt a0 (g3))))),(x8_1),(x9_1),(wrap64 ((wrap64 ((Int.tmod (wrap64 (bt a0 x1_1)) 64)*256))+(wrap64 (bt a0 (g3))))),(wrap64 (x1_1+2)),(by first|rfl|(simp;done)|(simp only[← g5]<;>(first|rfl|simp))|(simp[*];done)),(by first|rfl|(simp;done)|(simp only[← g5]<;>(first|rfl|simp))|(simp[*];done)),rs_,H',jm_ HK1 HJ6,⟨kR_ HO_8.out⟩,⟨kR_ HO_9.out⟩,⟨ay⟩⟩
     rw[if_neg y6]at H;have z1:=decide_eq_false y6;clear y6;have d5:=a0_ H;clear H;have j3:=t0_ (x1_1);have j4:=tl_ (x1_1) (a0.size);have g8:=cK a0 x1_1;go_upto_region 23 with(fail);go_cut [94] (fun J6 wc=> ∃ (kq:Nat) (j5:Bool),J6 = .bool j5∧ab (ac.j2 kq a0 x1_1 x8_1 x9_1 g1 g0 (wrap64 (bt a0 x1_1)) j5=some (r1,r2,r3,r4))∧ab (kq≤kj6)∧ab (Kd.R Kd.string 9 wc w.heap.size (fun _=>True) u8 x8_1)∧ab (Kd.R (Kd.int .i64) 3 wc w.heap.size (fun _=>True) u9 x9_1)∧ab (Below w.heap.size w wc))
     case first=>
      have H:=d5.out;clear d5
      by_cases b2:(wrap64 (bt a0 x1_1))≥64
      case neg=>
       rw[if_neg b2]at H;have j6:=decide_eq_false b2;clear b2
       (first|rw[j6]|(simp only[bu,bI];rw[j6])|skip)
       have H':=a0_ H;clear H;go_wp2;go_meet
       case rel=>exact⟨_,(decide ((wrap64 ((wrap64 (x1_1+1))+(wrap64 (bt a0 x1_1))))>(a0.size:Int))),rs_,H',⟨by have:=HK1.out;have:=HJ6.out;first|omega|exact Nat.le_refl _⟩,⟨kR_ HO_8.out⟩,⟨kR_ HO_9.out⟩,⟨ay⟩⟩
      rw[if_pos b2]at H;have j6:=decide_eq_true b2;clear b2
      (first|rw[j6]|(simp only[bu,bI];rw[j6])|skip)
      have H':=a0_ H;clear H;go_wp2;go_meet
      case rel=>exact⟨_,(true),rs_,H',⟨by have:=HK1.out;have:=HJ6.out;first|omega|exact Nat.le_refl _⟩,⟨kR_ HO_8.out⟩,⟨kR_ HO_9.out⟩,⟨ay⟩⟩
     case rest=>
      clear d5
      try clear c1
      try clear p2
      try clear c8
      try clear c8b0
      try clear b7
      try clear b8
      try clear f8
      try clear b9
      try clear f9
      try clear j3
      try clear j4
      try clear g8
      try clear y2
      try clear d9
      try clear z0
      try clear y6
      try clear z1
      try clear j3
      try clear p2
      try clear j4
      obtain⟨kq,j5,rfl,HA,HJ34,HO_8,HO_9,HB⟩:=hcut
      cases kq with
      | zero=>exact absurd HA.out (by simp[ac.j2])
      | succ kj34=>
       have H:=HA.out;clear HA;simp only[ac.j2]at H
       by_cases z6:j5=true
       case pos=>
        subst z6;rw[if_pos rfl]at H;simp only[Option.some.injEq,Prod.mk.injEq]at H;obtain⟨rfl,rfl,rfl,rfl⟩:=H;go_wp2
        refine bodyPost_ret (cQ (rs:=[.tmp 4,.tmp 5,.tmp 6,.tmp 7]) rfl (by simp) (.tmp (.tmp (.tmp (.tmp .nil))))) rfl ?_
        exact⟨_,rr_,by first|exact Kd.R_nil _ _ _ _ _|exact Kd.N_nil _ _ _ _ _|exact Kd.V_nil _ _ _ _ _|exact Kd.Q_nil _ _ _ _ _|exact Kd.S_nil _ _ _ _ _,ay⟩
       replace z6:=Bool.eq_false_iff.mpr z6;subst z6;rw[if_neg ff_]at H
       by_cases b3:g0<0
       case neg=>
        rw[if_neg b3]at H;have T4:=decide_eq_false b3;clear b3;obtain⟨g6,y4⟩:∃ j_:Int,(wrap64 (x1_1+1))=j_:=⟨_,rfl⟩
        (first|rw[y4]at H|simp only[y4]at H)
        have J7:(IntKind.i64.wrap (x1_1+1))=g6:=(bu _).trans y4
        by_cases d0:0≤(g6)
        case neg=>
         rw[if_neg d0]at H;exact absurd H (by simp)
        rw[if_pos d0]at H;have Q5:=eq_true d0;have Q6:=decide_eq_true d0;clear d0
        by_cases z7:(g6)≤(wrap64 ((g6)+(wrap64 (bt a0 x1_1))))
        case neg=>
         rw[if_neg z7]at H;exact absurd H (by simp)
        rw[if_pos z7]at H;have Q7:=eq_true z7;have Q8:=decide_eq_true z7
        by_cases z8:(wrap64 ((g6)+(wrap64 (bt a0 x1_1))))≤(a0.size:Int)
        case neg=>
         rw[if_neg z8]at H;exact absurd H (by simp)
        rw[if_pos z8]at H;have Q9:=eq_true z8;have D0:=decide_eq_true z8;obtain⟨b6,J8,H⟩:=ob_ H
        by_cases z9:x8_1.length<8796093022208
        case neg=>
         rw[if_neg z9]at H;exact absurd H (by simp)
        rw[if_pos z9]at H;have T5:=a0_ z9;clear z9;obtain⟨f5,j7⟩:∃ y_:List ByteArray,y_=(x8_1 ++ [b6]):=⟨_,rfl⟩
        replace H:(ac.l0 kj34 a0 (wrap64 (x1_1+(wrap64 (1+(wrap64 (bt a0 x1_1)))))) f5 x9_1 g1 g0)=some (r1,r2,r3,r4):=by first|(rw[j7];with_reducible exact H)|(have H2_:=(Option.bind_some _ _).symm.trans H;rw[j7];with_reducible exact H2_)|(have H2_:=(Option.bind_some _ _).symm.trans H;with_reducible exact H2_)|with_reducible exact H|(rw[j7];exact H)|exact H
        have T6:=a0_ j7;clear j7;have H':=a0_ H;clear H;go_wp2_with (first|((with_reducible refine gO (f:=176) rfl ?_);refine lO (some 46) rfl rfl Tryz.func176 (by kernel_rfl) rfl #[.string (a0.extract ((g6):Int).toNat ((wrap64 ((g6)+(wrap64 (bt a0 x1_1)))):Int).toNat)] rfl (by(try simp only[List.map_toArray,List.map_cons,List.map_nil]);first|done|(simp only[y4];rfl)|rfl|(simp only[List.length_drop,List.length_take];rfl)) ?_;(with_reducible refine(em.c (a0.extract ((g6):Int).toNat ((wrap64 ((g6)+(wrap64 (bt a0 x1_1)))):Int).toNat) b6 _ J8.out).mono ?_);rintro e Y4 ⟨rfl,hb⟩;refine⟨_,rfl,?_⟩;replace HO_8:=a0_ (Kd.R_below (kR_ HO_8.out) hb);replace HO_9:=a0_ (Kd.R_below (kR_ HO_9.out) hb);replace HB:=a0_ (aa ay hb);clear hb)|((with_reducible refine bz (b:=.append) (xs:=#[.tmp 37,.tmp 47]) rfl ?_);(try(refine bP (by rfl) ?_;dsimp only));at_builtin;refine Kd.R_append Kd.string (w0:=w) w.heap.size rfl (.tmp 37) (.tmp 47) 78 9 (.string ⟨#[]⟩) 16 rfl Tryz.underlying78 jd rfl (by decide) (by omega) u8 x8_1 b6 [.string b6] (fun _=>True) (fun _=>False) rfl rfl ?aP (fun _ hk=>hk.elim) ?aF ?aO ?aB ?aS ?aL ?_;(case aP=>exact rfl);(case aB=>exact ay);(case aF=>exact(fun _ _=>trivial));(case aO=>exact(kR_ HO_8.out));(case aS=>exact(aj ay));(case aL=>have:=T5.out;omega);intro D9 Y5 ho hb hg hat;rw[← T6.out]at ho;replace HO_9:=a0_ (Kd.R_over' (kR_ HO_9.out) (Kd.R_typed (kR_ HO_8.out)) (by decide) hg);replace HB:=a0_ (hb);have T7:=a0_ (ho);clear HO_8;clear ho hb hg hat));go_roundg kj34
        case measure=>have:=HK1.out;have:=HJ6.out;have:=HJ34.out;omega
        case rel=>exact⟨(wrap64 (x1_1+(wrap64 (1+(wrap64 (bt a0 x1_1)))))),(f5),(x9_1),(g1),(g0),rs_,rs_,rs_,H',jn_ HK1 HJ6 HJ34,⟨kR_ T7.out⟩,⟨kR_ HO_9.out⟩,⟨ay⟩⟩
       rw[if_pos b3]at H;have T4:=decide_eq_true b3;clear b3
       by_cases f0:x9_1.length<17592186044416
       case neg=>
        rw[if_neg f0]at H;exact absurd H (by simp)
       rw[if_pos f0]at H;have T8:=a0_ f0;clear f0;obtain⟨d6,j8⟩:∃ y_:List Int,y_=(x9_1 ++ [x1_1]):=⟨_,rfl⟩
       replace H:(if 0≤(wrap64 (x1_1+1))then(if(wrap64 (x1_1+1))≤(wrap64 ((wrap64 (x1_1+1))+(wrap64 (bt a0 x1_1))))then(if(wrap64 ((wrap64 (x1_1+1))+(wrap64 (bt a0 x1_1))))≤(a0.size:Int)then((em.f (a0.extract ((wrap64 (x1_1+1)):Int).toNat ((wrap64 ((wrap64 (x1_1+1))+(wrap64 (bt a0 x1_1)))):Int).toNat)).bind fun y1=>(if x8_1.length<8796093022208 then(ac.l0 kj34 a0 (wrap64 (x1_1+(wrap64 (1+(wrap64 (bt a0 x1_1)))))) (x8_1 ++ [y1]) d6 g1 g0)else(none)))else(none))else(none))else(none))=some (r1,r2,r3,r4):=by first|(rw[j8];with_reducible exact H)|(have H2_:=(Option.bind_some _ _).symm.trans H;rw[j8];with_reducible exact H2_)|(have H2_:=(Option.bind_some _ _).symm.trans H;with_reducible exact H2_)|with_reducible exact H|(rw[j8];exact H)|exact H
       have T9:=a0_ j8;clear j8;obtain⟨g7,y5⟩:∃ j_:Int,(wrap64 (x1_1+1))=j_:=⟨_,rfl⟩
       (first|rw[y5]at H|simp only[y5]at H)
       have J9:(IntKind.i64.wrap (x1_1+1))=g7:=(bu _).trans y5
       by_cases d3:0≤(g7)
       case neg=>
        rw[if_neg d3]at H;exact absurd H (by simp)
       rw[if_pos d3]at H;have D1:=eq_true d3;have D2:=decide_eq_true d3;clear d3
       by_cases f1:(g7)≤(wrap64 ((g7)+(wrap64 (bt a0 x1_1))))
       case neg=>
        rw[if_neg f1]at H;exact absurd H (by simp)
       rw[if_pos f1]at H;have D3:=eq_true f1;have D4:=decide_eq_true f1
       by_cases f2:(wrap64 ((g7)+(wrap64 (bt a0 x1_1))))≤(a0.size:Int)
       case neg=>
        rw[if_neg f2]at H;exact absurd H (by simp)
       rw[if_pos f2]at H;have D5:=eq_true f2;have D6:=decide_eq_true f2;obtain⟨y1,Q0,H⟩:=ob_ H
       by_cases f3:x8_1.length<8796093022208
       case neg=>
        rw[if_neg f3]at H;exact absurd H (by simp)
       rw[if_pos f3]at H;have V0:=a0_ f3;clear f3;obtain⟨f6,j9⟩:∃ y_:List ByteArray,y_=(x8_1 ++ [y1]):=⟨_,rfl⟩
       replace H:(ac.l0 kj34 a0 (wrap64 (x1_1+(wrap64 (1+(wrap64 (bt a0 x1_1)))))) f6 d6 g1 g0)=some (r1,r2,r3,r4):=by first|(rw[j9];with_reducible exact H)|(have H2_:=(Option.bind_some _ _).symm.trans H;rw[j9];with_reducible exact H2_)|(have H2_:=(Option.bind_some _ _).symm.trans H;with_reducible exact H2_)|with_reducible exact H|(rw[j9];exact H)|exact H
       have V1:=a0_ j9;clear j9;have H':=a0_ H;clear H;go_wp2_with (first|((with_reducible refine bz (b:=.append) (xs:=#[.tmp 33,.tmp 35]) rfl ?_);(try(refine bP (by rfl) ?_;dsimp only));at_builtin;refine Kd.R_append (Kd.int .i64) (w0:=w) w.heap.size rfl (.tmp 33) (.tmp 35) 131 3 (.int .i64 0) 8 rfl Tryz.underlying131 nT rfl (by decide) (by omega) u9 x9_1 x1_1 [.int .i64 x1_1] (fun _=>True) (fun _=>False) rfl rfl ?aP (fun _ hk=>hk.elim) ?aF ?aO ?aB ?aS ?aL ?_;(case aP=>exact rfl);(case aB=>exact ay);(case aF=>exact(fun _ _=>trivial));(case aO=>exact(kR_ HO_9.out));(case aS=>exact(aj ay));(case aL=>have:=T8.out;omega);intro Y0 Y6 ho hb hg hat;rw[← T9.out]at ho;replace HO_8:=a0_ (Kd.R_over' (kR_ HO_8.out) (Kd.R_typed (kR_ HO_9.out)) (by decide) hg);replace HB:=a0_ (hb);have y0:=a0_ (ho);clear HO_9;clear ho hb hg hat)|((with_reducible refine gO (f:=176) rfl ?_);refine lO (some 46) rfl rfl Tryz.func176 (by kernel_rfl) rfl #[.string (a0.extract ((g7):Int).toNat ((wrap64 ((g7)+(wrap64 (bt a0 x1_1)))):Int).toNat)] rfl (by(try simp only[List.map_toArray,List.map_cons,List.map_nil]);first|done|(simp only[y5];rfl)|rfl|(simp only[List.length_drop,List.length_take];rfl)) ?_;(with_reducible refine(em.c (a0.extract ((g7):Int).toNat ((wrap64 ((g7)+(wrap64 (bt a0 x1_1)))):Int).toNat) y1 _ Q0.out).mono ?_);rintro e Y7 ⟨rfl,hb⟩;refine⟨_,rfl,?_⟩;replace HO_8:=a0_ (Kd.R_below (kR_ HO_8.out) hb);replace y0:=a0_ (Kd.R_below (kR_ y0.out) hb);replace HB:=a0_ (aa ay hb);clear hb)|((with_reducible refine bz (b:=.append) (xs:=#[.tmp 37,.tmp 47]) rfl ?_);(try(refine bP (by rfl) ?_;dsimp only));at_builtin;refine Kd.R_append Kd.string (w0:=w) w.heap.size rfl (.tmp 37) (.tmp 47) 78 9 (.string ⟨#[]⟩) 16 rfl Tryz.underlying78 jd rfl (by decide) (by omega) u8 x8_1 y1 [.string y1] (fun _=>True) (fun _=>False) rfl rfl ?aP (fun _ hk=>hk.elim) ?aF ?aO ?aB ?aS ?aL ?_;(case aP=>exact rfl);(case aB=>exact ay);(case aF=>exact(fun _ _=>trivial));(case aO=>exact(kR_ HO_8.out));(case aS=>exact(aj ay));(case aL=>have:=V0.out;omega);intro Y1 Y8 ho hb hg hat;rw[← V1.out]at ho;replace y0:=a0_ (Kd.R_over' (kR_ y0.out) (Kd.R_typed (kR_ HO_8.out)) (by decide) hg);replace HB:=a0_ (hb);have V2:=a0_ (ho);clear HO_8;clear ho hb hg hat));go_roundg kj34
       case measure=>have:=HK1.out;have:=HJ6.out;have:=HJ34.out;omega
       case rel=>exact⟨(wrap64 (x1_1+(wrap64 (1+(wrap64 (bt a0 x1_1)))))),(f6),(d6),(g1),(g0),rs_,rs_,rs_,H',jn_ HK1 HJ6 HJ34,⟨kR_ V2.out⟩,⟨kR_ y0.out⟩,⟨ay⟩⟩
end Go.Proofs.YtiegkjimpclmaaaGreatDoor.P
namespace Go.Proofs.YtiegkjimpclmaaaGreatDoor.P
attribute [local go_sem] cG cD c_ cZ ci ch cE cH
attribute [-simp] ByteArray.size_extract
mutual
def ah.l0: Nat→ByteArray→Int→List ByteArray→List Int→Int→Int→Option (ByteArray×Int×List Int×Bool)
 | 0,_,_,_,_,_,_=>none
 | k+1,x0,x1,x8,x9,g1,g0=>if(x8.length:Int)≤8 then(if x1≥(x0.size:Int)then(some ((⟨#[]⟩:ByteArray),0,([]:List Int),false))else(if 0≤x1 then(if x1<(x0.size:Int)then(if(wrap64 (bt x0 x1))≥192 then(if(wrap64 (x1+1))≥(x0.size:Int)then(some ((⟨#[]⟩:ByteArray),0,([]:List Int),false))else(if g0<0 then(if 0≤(wrap64 (x1+1))then(if(wrap64 (x1+1))<(x0.size:Int)then(if(wrap64 ((wrap64 ((wrap64 ((wrap64 (bt x0 x1))-192))*256))+(wrap64 (bt x0 (wrap64 (x1+1))))))≥g1 then(some ((⟨#[]⟩:ByteArray),0,([]:List Int),false))else(ah.l0 k x0 (wrap64 ((wrap64 ((wrap64 ((wrap64 (bt x0 x1))-192))*256))+(wrap64 (bt x0 (wrap64 (x1+1)))))) x8 x9 (wrap64 ((wrap64 ((wrap64 ((wrap64 (bt x0 x1))-192))*256))+(wrap64 (bt x0 (wrap64 (x1+1)))))) (wrap64 (x1+2))))else(none))else(none))else(if 0≤(wrap64 (x1+1))then(if(wrap64 (x1+1))<(x0.size:Int)then(if(wrap64 ((wrap64 ((wrap64 ((wrap64 (bt x0 x1))-192))*256))+(wrap64 (bt x0 (wrap64 (x1+1))))))≥g1 then(some ((⟨#[]⟩:ByteArray),0,([]:List Int),false))else(ah.l0 k x0 (wrap64 ((wrap64 ((wrap64 ((wrap64 (bt x0 x1))-192))*256))+(wrap64 (bt x0 (wrap64 (x1+1)))))) x8 x9 (wrap64 ((wrap64 ((wrap64 ((wrap64 (bt x0 x1))-192))*256))+(wrap64 (bt x0 (wrap64 (x1+1)))))) g0))else(none))else(none))))else(if(wrap64 (bt x0 x1))=0 then(if g0<0 then((bi.f k x8).bind fun g4=>((dw.f g4).bind fun g2=>(some (g2.1,wrap64 (x1+1),x9,g2.2))))else((bi.f k x8).bind fun g5=>((dw.f g5).bind fun g3=>(some (g3.1,g0,x9,g3.2)))))else(if(wrap64 (bt x0 x1))>20 then(ah.j1 k x0 x1 x8 x9 g1 g0 (wrap64 (bt x0 x1)) true)else(ah.j1 k x0 x1 x8 x9 g1 g0 (wrap64 (bt x0 x1)) (decide ((wrap64 ((wrap64 (x1+1))+(wrap64 (bt x0 x1))))>(x0.size:Int)))))))else(none))else(none)))else(some ((⟨#[]⟩:ByteArray),0,([]:List Int),false))
def ah.j1: Nat→ByteArray→Int→List ByteArray→List Int→Int→Int→Int→Bool→Option (ByteArray×Int×List Int×Bool)
 | 0,_,_,_,_,_,_,_,_=>none
 | k+1,x0,x1,x8,x9,g1,g0,g2,g3=>if g3=true then(some ((⟨#[]⟩:ByteArray),0,([]:List Int),false))else(if g0<0 then(if x9.length<17592186044416 then(ah.j2 k x0 x1 x8 (x9 ++ [x1]) g1 g0 g2)else(none))else(ah.j2 k x0 x1 x8 x9 g1 g0 g2))
def ah.j2: Nat→ByteArray→Int→List ByteArray→List Int→Int→Int→Int→Option (ByteArray×Int×List Int×Bool)
 | 0,_,_,_,_,_,_,_=>none
 | k+1,x0,x1,x8,x9,g1,g2,g0=>if 0≤(wrap64 (x1+1))then(if(wrap64 (x1+1))≤(wrap64 ((wrap64 (x1+1))+g0))then(if(wrap64 ((wrap64 (x1+1))+g0))≤(x0.size:Int)then(ah.l1 k x0 x1 x8 x9 g1 g2 g0 (x0.extract ((wrap64 (x1+1)):Int).toNat ((wrap64 ((wrap64 (x1+1))+g0)):Int).toNat) 0)else(none))else(none))else(none)
def ah.l1: Nat→ByteArray→Int→List ByteArray→List Int→Int→Int→Int→ByteArray→Int→Option (ByteArray×Int×List Int×Bool)
 | 0,_,_,_,_,_,_,_,_,_=>none
 | k+1,x0,x1,x8,x9,g3,g4,g2,g1,g0=>if g0<g2 then(if 0≤g0 then(if g0<(g1.size:Int)then(if(bt g1 g0)=46 then(some ((⟨#[]⟩:ByteArray),0,([]:List Int),false))else(ah.l1 k x0 x1 x8 x9 g3 g4 g2 g1 (wrap64 (g0+1))))else(none))else(none))else(if x8.length<8796093022208 then(ah.l0 k x0 (wrap64 (x1+(wrap64 (1+g2)))) (x8 ++ [g1]) x9 g3 g4)else(none))
end
def ah.f(k:Nat)(a0:ByteArray)(a1:Int): Option (ByteArray×Int×List Int×Bool):=ah.l0 k a0 a1 ([]:List ByteArray) ([]:List Int) a1 (-1)
theorem ah.mono_l: ∀ k,(∀ y0 y1 y2 y3 y4 y5,LeO (ah.l0 k y0 y1 y2 y3 y4 y5) (ah.l0 (k+1) y0 y1 y2 y3 y4 y5))∧(∀ y0 y1 y2 y3 y4 y5 y6 y7,LeO (ah.j1 k y0 y1 y2 y3 y4 y5 y6 y7) (ah.j1 (k+1) y0 y1 y2 y3 y4 y5 y6 y7))∧(∀ y0 y1 y2 y3 y4 y5 y6,LeO (ah.j2 k y0 y1 y2 y3 y4 y5 y6) (ah.j2 (k+1) y0 y1 y2 y3 y4 y5 y6))∧(∀ y0 y1 y2 y3 y4 y5 y6 y7 y8,LeO (ah.l1 k y0 y1 y2 y3 y4 y5 y6 y7 y8) (ah.l1 (k+1) y0 y1 y2 y3 y4 y5 y6 y7 y8))
 | 0=>⟨fun _ _ _ _ _ _ r h=>by simp[ah.l0]at h,fun _ _ _ _ _ _ _ _ r h=>by simp[ah.j1]at h,fun _ _ _ _ _ _ _ r h=>by simp[ah.j2]at h,fun _ _ _ _ _ _ _ _ _ r h=>by simp[ah.l1]at h⟩
 | k+1=>by
  obtain⟨ih0,ih1,ih2,ih3⟩:=ah.mono_l k;refine⟨?_,?_,?_,?_⟩
  · intro y0 y1 y2 y3 y4 y5
    unfold ah.l0
    repeat' first|(with_reducible first|exact ih0 _ _ _ _ _ _|exact ih1 _ _ _ _ _ _ _ _|exact ih2 _ _ _ _ _ _ _|exact ih3 _ _ _ _ _ _ _ _ _|exact bi.m _ _|exact LeO.refl _|exact LeO.none _|refine LeO.ite ?_ ?_|refine LeO.bind ?_ (fun _=>?_))|exact LeO.none _|refine LeO.ite ?_ ?_|refine LeO.bind ?_ (fun _=>?_)
  · intro y0 y1 y2 y3 y4 y5 y6 y7
    unfold ah.j1
    repeat' first|(with_reducible first|exact ih0 _ _ _ _ _ _|exact ih1 _ _ _ _ _ _ _ _|exact ih2 _ _ _ _ _ _ _|exact ih3 _ _ _ _ _ _ _ _ _|exact bi.m _ _|exact LeO.refl _|exact LeO.none _|refine LeO.ite ?_ ?_|refine LeO.bind ?_ (fun _=>?_))|exact LeO.none _|refine LeO.ite ?_ ?_|refine LeO.bind ?_ (fun _=>?_)
  · intro y0 y1 y2 y3 y4 y5 y6
    unfold ah.j2
    repeat' first|(with_reducible first|exact ih0 _ _ _ _ _ _|exact ih1 _ _ _ _ _ _ _ _|exact ih2 _ _ _ _ _ _ _|exact ih3 _ _ _ _ _ _ _ _ _|exact bi.m _ _|exact LeO.refl _|exact LeO.none _|refine LeO.ite ?_ ?_|refine LeO.bind ?_ (fun _=>?_))|exact LeO.none _|refine LeO.ite ?_ ?_|refine LeO.bind ?_ (fun _=>?_)
  · intro y0 y1 y2 y3 y4 y5 y6 y7 y8
    unfold ah.l1
    repeat' first|(with_reducible first|exact ih0 _ _ _ _ _ _|exact ih1 _ _ _ _ _ _ _ _|exact ih2 _ _ _ _ _ _ _|exact ih3 _ _ _ _ _ _ _ _ _|exact bi.m _ _|exact LeO.refl _|exact LeO.none _|refine LeO.ite ?_ ?_|refine LeO.bind ?_ (fun _=>?_))|exact LeO.none _|refine LeO.ite ?_ ?_|refine LeO.bind ?_ (fun _=>?_)
theorem ah.c(k:Nat)(a0:ByteArray)(a1:Int)(r1:ByteArray)(r2:Int)(r3:List Int)(r4:Bool)(w:World)(h:ah.f k a0 a1=some (r1,r2,r3,r4)):
 Calls Tryz.prog 115 #[.string a0,.int .i64 a1] w fun e w'=> ∃ v2_:Value,e = .returned (.tuple #[.string r1,.int .i64 r2,v2_,.bool r4])∧Kd.R (Kd.int .i64) 3 w' w.heap.size (fun _=>True) v2_ r3∧Below w.heap.size w w':=by
 have HB:=a0_ (Below.refl w.heap.size w);have H:=h;clear h;unfold ah.f at H;have H':=a0_ H;clear H;go_enter Tryz.func115,Tryz.ntmps115;go_wp2;go_loopg [1,8,9,10,11] k (fun kq v1 v8 v9 G8 G9 w'=> ∃ (x1_1:Int) (x8_1:List ByteArray) (x9_1:List Int) (g3:Int) (g2:Int),v1 = .int .i64 x1_1∧G8 = .int .i64 g3∧G9 = .int .i64 g2∧ab (ah.l0 kq a0 x1_1 x8_1 x9_1 g3 g2=some (r1,r2,r3,r4))∧ab (kq≤k)∧ab (Kd.R Kd.string 9 w' w.heap.size (fun _=>True) v8 x8_1)∧ab (Kd.R (Kd.int .i64) 3 w' w.heap.size (fun _=>True) v9 x9_1)∧ab (Below w.heap.size w w'))
 case atStart=>exact⟨(a1),(([]:List ByteArray)),(([]:List Int)),(a1),((-1)),rs_,rs_,rs_,H',⟨Nat.le_refl _⟩,⟨by first|exact Kd.R_nil _ _ _ _ _|exact Kd.N_nil _ _ _ _ _|exact Kd.V_nil _ _ _ _ _|exact Kd.Q_nil _ _ _ _ _|exact Kd.S_nil _ _ _ _ _⟩,⟨by first|exact Kd.R_nil _ _ _ _ _|exact Kd.N_nil _ _ _ _ _|exact Kd.V_nil _ _ _ _ _|exact Kd.Q_nil _ _ _ _ _|exact Kd.S_nil _ _ _ _ _⟩,⟨ay⟩⟩
 case round=>
  clear H';obtain⟨x1_1,x8_1,x9_1,g3,g2,rfl,rfl,rfl,HA,HK1,HO_8,HO_9,HB⟩:=hrel
  cases gk with
  | zero=>exact absurd HA.out (by simp[ah.l0])
  | succ k1=>
   have H:=HA.out;clear HA;simp only[ah.l0]at H
   by_cases c3:(x8_1.length:Int)≤8
   case neg=>
    rw[if_neg c3]at H;have c3b0:=decide_eq_false c3;have c3b1:decide (x8_1.length≤8)=false:=decide_eq_false (by omega);clear c3;simp only[Option.some.injEq,Prod.mk.injEq]at H;obtain⟨rfl,rfl,rfl,rfl⟩:=H;obtain⟨Q5,Q6,T9⟩:=Kd.R_slice HO_8.out;subst T9;go_wp2
    refine bodyPost_ret (cQ (rs:=[.tmp 4,.tmp 5,.tmp 6,.tmp 7]) rfl (by simp) (.tmp (.tmp (.tmp (.tmp .nil))))) rfl ?_
    exact⟨_,rr_,by first|exact Kd.R_nil _ _ _ _ _|exact Kd.N_nil _ _ _ _ _|exact Kd.V_nil _ _ _ _ _|exact Kd.Q_nil _ _ _ _ _|exact Kd.S_nil _ _ _ _ _,ay⟩
   rw[if_pos c3]at H;have c3b0:=decide_eq_true c3;have c3b1:decide (x8_1.length≤8)=true:=decide_eq_true (by omega);clear c3
   by_cases c4:x1_1≥(a0.size:Int)
   case pos=>
    rw[if_pos c4]at H;have c4b0:=decide_eq_true c4;clear c4;simp only[Option.some.injEq,Prod.mk.injEq]at H;obtain⟨rfl,rfl,rfl,rfl⟩:=H;obtain⟨Ao5,co5,eo5⟩:=Kd.R_slice HO_8.out;subst eo5;go_wp2
    refine bodyPost_ret (cQ (rs:=[.tmp 4,.tmp 5,.tmp 6,.tmp 7]) rfl (by simp) (.tmp (.tmp (.tmp (.tmp .nil))))) rfl ?_
    exact⟨_,rr_,by first|exact Kd.R_nil _ _ _ _ _|exact Kd.N_nil _ _ _ _ _|exact Kd.V_nil _ _ _ _ _|exact Kd.Q_nil _ _ _ _ _|exact Kd.S_nil _ _ _ _ _,ay⟩
   rw[if_neg c4]at H;have c4b0:=decide_eq_false c4;clear c4
   by_cases c6:0≤x1_1
   case neg=>
    rw[if_neg c6]at H;exact absurd H (by simp)
   rw[if_pos c6]at H;have c6b0:=decide_eq_true c6;clear c6
   by_cases c7:x1_1<(a0.size:Int)
   case neg=>
    rw[if_neg c7]at H;exact absurd H (by simp)
   rw[if_pos c7]at H;have c7b0:=decide_eq_true c7;clear c7
   by_cases c9:(wrap64 (bt a0 x1_1))≥192
   case pos=>
    rw[if_pos c9]at H;have c9b0:=decide_eq_true c9;clear c9
    by_cases j6:(wrap64 (x1_1+1))≥(a0.size:Int)
    case pos=>
     rw[if_pos j6]at H;have j3:=decide_eq_true j6;clear j6;simp only[Option.some.injEq,Prod.mk.injEq]at H;obtain⟨rfl,rfl,rfl,rfl⟩:=H;obtain⟨Q7,Q8,V0⟩:=Kd.R_slice HO_8.out;subst V0;have p8:=t0_ (x1_1);have q8:=tl_ (x1_1) (a0.size);have hx8:=cK a0 x1_1;go_wp2
     refine bodyPost_ret (cQ (rs:=[.tmp 4,.tmp 5,.tmp 6,.tmp 7]) rfl (by simp) (.tmp (.tmp (.tmp (.tmp .nil))))) rfl ?_
     exact⟨_,rr_,by first|exact Kd.R_nil _ _ _ _ _|exact Kd.N_nil _ _ _ _ _|exact Kd.V_nil _ _ _ _ _|exact Kd.Q_nil _ _ _ _ _|exact Kd.S_nil _ _ _ _ _,ay⟩
    rw[if_neg j6]at H;have j3:=decide_eq_false j6;clear j6
    by_cases j7:g2<0
    case neg=>
     rw[if_neg j7]at H;have b4:=decide_eq_false j7;clear j7;obtain⟨g4,g6⟩:∃ j_:Int,(wrap64 (x1_1+1))=j_:=⟨_,rfl⟩
     (first|rw[g6]at H|simp only[g6]at H)
     (try rw[g6]at j3)
     have J0:(IntKind.i64.wrap (x1_1+1))=g4:=(bu _).trans g6
     by_cases y7:0≤(g4)
     case neg=>
      rw[if_neg y7]at H;exact absurd H (by simp)
     rw[if_pos y7]at H;have z6:=decide_eq_true y7;clear y7
     by_cases y8:(g4)<(a0.size:Int)
     case neg=>
      rw[if_neg y8]at H;exact absurd H (by simp)
     rw[if_pos y8]at H;have z7:=decide_eq_true y8;clear y8
     by_cases j8:(wrap64 ((wrap64 ((wrap64 ((wrap64 (bt a0 x1_1))-192))*256))+(wrap64 (bt a0 (g4)))))≥g3
     case pos=>
      rw[if_pos j8]at H;have b5:=decide_eq_true j8;clear j8;simp only[Option.some.injEq,Prod.mk.injEq]at H;obtain⟨rfl,rfl,rfl,rfl⟩:=H;obtain⟨Q9,D0,V1⟩:=Kd.R_slice HO_8.out;subst V1;have p8:=t0_ (x1_1);have q8:=tl_ (x1_1) (a0.size);have hx8:=cK a0 x1_1;have d3:=t0_ ((g4));have d4:=tl_ ((g4)) (a0.size);have z0:=cK a0 (g4);go_wp2
      refine bodyPost_ret (cQ (rs:=[.tmp 4,.tmp 5,.tmp 6,.tmp 7]) rfl (by simp) (.tmp (.tmp (.tmp (.tmp .nil))))) rfl ?_
      exact⟨_,by first|rfl|(simp[bY,bZ]<;>rfl)|(simp only[← g6];first|rfl|(simp[bY,bZ]<;>rfl))|(simp[*,bY,bZ]<;>rfl),by first|exact Kd.R_nil _ _ _ _ _|exact Kd.N_nil _ _ _ _ _|exact Kd.V_nil _ _ _ _ _|exact Kd.Q_nil _ _ _ _ _|exact Kd.S_nil _ _ _ _ _,ay⟩
     rw[if_neg j8]at H;have b5:=decide_eq_false j8;clear j8;have H':=a0_ H;clear H;obtain⟨D1,D2,V2⟩:=Kd.R_slice HO_8.out;subst V2;have p8:=t0_ (x1_1);have q8:=tl_ (x1_1) (a0.size);have hx8:=cK a0 x1_1;have d3:=t0_ ((g4));have d4:=tl_ ((g4)) (a0.size);have z0:=cK a0 (g4);go_wp2;go_roundg k1
     case measure=>have:=HK1.out;omega
     case rel=>exact⟨(wrap64 ((wrap64 ((wrap64 ((wrap64 (bt a0 x1_1))-192))*256))+(wrap64 (bt a0 (g4))))),(x8_1),(x9_1),(wrap64 ((wrap64 ((wrap64 ((wrap64 (bt a0 x1_1))-192))*256))+(wrap64 (bt a0 (g4))))),(g2),(by first|rfl|(simp;done)|(simp only[← g6]<;>(first|rfl|simp))|(simp[*];done)),(by first|rfl|(simp;done)|(simp only[← g6]<;>(first|rfl|simp))|(simp[*];done)),rs_,H',jl_ HK1,⟨kR_ HO_8.out⟩,⟨kR_ HO_9.out⟩,⟨ay⟩⟩
    rw[if_pos j7]at H;have b4:=decide_eq_true j7;clear j7;obtain⟨g5,g7⟩:∃ j_:Int,(wrap64 (x1_1+1))=j_:=⟨_,rfl⟩
    (first|rw[g7]at H|simp only[g7]at H)
    (try rw[g7]at j3)
    have J1:(IntKind.i64.wrap (x1_1+1))=g5:=(bu _).trans g7
    by_cases y9:0≤(g5)
    case neg=>
     rw[if_neg y9]at H;exact absurd H (by simp)
    rw[if_pos y9]at H;have z8:=decide_eq_true y9;clear y9
    by_cases b0:(g5)<(a0.size:Int)
    case neg=>
     rw[if_neg b0]at H;exact absurd H (by simp)
    rw[if_pos b0]at H;have z9:=decide_eq_true b0;clear b0
    by_cases j9:(wrap64 ((wrap64 ((wrap64 ((wrap64 (bt a0 x1_1))-192))*256))+(wrap64 (bt a0 (g5)))))≥g3
    case pos=>
     rw[if_pos j9]at H;have b6:=decide_eq_true j9;clear j9;simp only[Option.some.injEq,Prod.mk.injEq]at H;obtain⟨rfl,rfl,rfl,rfl⟩:=H;obtain⟨D3,D4,V3⟩:=Kd.R_slice HO_8.out;subst V3;have p8:=t0_ (x1_1);have q8:=tl_ (x1_1) (a0.size);have hx8:=cK a0 x1_1;have d5:=t0_ ((g5));have d6:=tl_ ((g5)) (a0.size);have z1:=cK a0 (g5);go_wp2
     refine bodyPost_ret (cQ (rs:=[.tmp 4,.tmp 5,.tmp 6,.tmp 7]) rfl (by simp) (.tmp (.tmp (.tmp (.tmp .nil))))) rfl ?_
     exact⟨_,by first|rfl|(simp[bY,bZ]<;>rfl)|(simp only[← g7];first|rfl|(simp[bY,bZ]<;>rfl))|(simp[*,bY,bZ]<;>rfl),by first|exact Kd.R_nil _ _ _ _ _|exact Kd.N_nil _ _ _ _ _|exact Kd.V_nil _ _ _ _ _|exact Kd.Q_nil _ _ _ _ _|exact Kd.S_nil _ _ _ _ _,ay⟩
    rw[if_neg j9]at H;have b6:=decide_eq_false j9;clear j9;have H':=a0_ H;clear H;obtain⟨D5,D6,V4⟩:=Kd.R_slice HO_8.out;subst V4;have p8:=t0_ (x1_1);have q8:=tl_ (x1_1) (a0.size);have hx8:=cK a0 x1_1;have d5:=t0_ ((g5));have d6:=tl_ ((g5)) (a0.size);have z1:=cK a0 (g5);go_wp2;go_roundg k1
    case measure=>have:=HK1.out;omega
    case rel=>exact⟨(wrap64 ((wrap64 ((wrap64 ((wrap64 (bt a0 x1_1))-192))*256))+(wrap64 (bt a0 (g5))))),(x8_1),(x9_1),(wrap64 ((wrap64 ((wrap64 ((wrap64 (bt a0 x1_1))-192))*256))+(wrap64 (bt a0 (g5))))),(wrap64 (x1_1+2)),(by first|rfl|(simp;done)|(simp only[← g7]<;>(first|rfl|simp))|(simp[*];done)),(by first|rfl|(simp;done)|(simp only[← g7]<;>(first|rfl|simp))|(simp[*];done)),rs_,H',jl_ HK1,⟨kR_ HO_8.out⟩,⟨kR_ HO_9.out⟩,⟨ay⟩⟩
   rw[if_neg c9]at H;have c9b0:=decide_eq_false c9;clear c9
   by_cases j0:(wrap64 (bt a0 x1_1))=0
   case pos=>
    rw[if_pos j0]at H;have y2:=beq_iff_eq.mpr j0;have y3:=bne_eq_false_iff_eq.mpr j0;clear j0
    by_cases y0:g2<0
    case neg=>
     rw[if_neg y0]at H;have b7:=decide_eq_false y0;clear y0;obtain⟨z2,J2,H⟩:=ob_ H;obtain⟨⟨V5,V6⟩,J3,H⟩:=ob_ H;simp only[Option.some.injEq,Prod.mk.injEq]at H;obtain⟨rfl,rfl,rfl,rfl⟩:=H;obtain⟨V7,V8,V9⟩:=Kd.R_slice HO_8.out;subst V9;have p8:=t0_ (x1_1);have q8:=tl_ (x1_1) (a0.size);have hx8:=cK a0 x1_1;go_wp2_with (first|((with_reducible refine gt_ 170 rfl ?_);refine gs_ 61 Tryz.func170 #[.slice V7 x8_1.length V8] ?_;(with_reducible refine(bi.c k1 _ _ x8_1 z2 _ ?side1 ?side2 J2.out).mono ?_);(case side1=>exact kD_ (Kd.R_reads' HO_8.out).2.2);(case side2=>exact(Kd.R_reads' HO_8.out).2.1);rintro e w' ⟨rfl,⟨nd,rfl⟩⟩;refine⟨_,rfl,?_⟩)|((with_reducible refine gt_ 169 rfl ?_);refine gs_ 62 Tryz.func169 #[.string z2] ?_;(with_reducible refine(dw.c z2 V5 V6 _ J3.out).mono ?_);rintro e D9 ⟨rfl,hb⟩;refine⟨_,rfl,?_⟩;replace HO_8:=a0_ (Kd.R_below (kR_ HO_8.out) hb);replace HO_9:=a0_ (Kd.R_below (kR_ HO_9.out) hb);replace HB:=a0_ (aa ay hb);clear hb))
     refine bodyPost_ret (cQ (rs:=[.tmp 4,.tmp 5,.tmp 6,.tmp 7]) rfl (by simp) (.tmp (.tmp (.tmp (.tmp .nil))))) rfl ?_
     exact⟨_,rr_,kR_ HO_9.out,ay⟩
    rw[if_pos y0]at H;have b7:=decide_eq_true y0;clear y0;obtain⟨z3,J4,H⟩:=ob_ H;obtain⟨⟨G0,G1⟩,J5,H⟩:=ob_ H;simp only[Option.some.injEq,Prod.mk.injEq]at H;obtain⟨rfl,rfl,rfl,rfl⟩:=H;obtain⟨G2,G3,G4⟩:=Kd.R_slice HO_8.out;subst G4;have p8:=t0_ (x1_1);have q8:=tl_ (x1_1) (a0.size);have hx8:=cK a0 x1_1;go_wp2_with (first|((with_reducible refine gt_ 170 rfl ?_);refine gs_ 61 Tryz.func170 #[.slice G2 x8_1.length G3] ?_;(with_reducible refine(bi.c k1 _ _ x8_1 z3 _ ?side1 ?side2 J4.out).mono ?_);(case side1=>exact kD_ (Kd.R_reads' HO_8.out).2.2);(case side2=>exact(Kd.R_reads' HO_8.out).2.1);rintro e w' ⟨rfl,⟨nd,rfl⟩⟩;refine⟨_,rfl,?_⟩)|((with_reducible refine gt_ 169 rfl ?_);refine gs_ 62 Tryz.func169 #[.string z3] ?_;(with_reducible refine(dw.c z3 G0 G1 _ J5.out).mono ?_);rintro e Y0 ⟨rfl,hb⟩;refine⟨_,rfl,?_⟩;replace HO_8:=a0_ (Kd.R_below (kR_ HO_8.out) hb);replace HO_9:=a0_ (Kd.R_below (kR_ HO_9.out) hb);replace HB:=a0_ (aa ay hb);clear hb))
    refine bodyPost_ret (cQ (rs:=[.tmp 4,.tmp 5,.tmp 6,.tmp 7]) rfl (by simp) (.tmp (.tmp (.tmp (.tmp .nil))))) rfl ?_
    exact⟨_,rr_,kR_ HO_9.out,ay⟩
   rw[if_neg j0]at H;have y2:=beq_eq_false_iff_ne.mpr j0;have y3:=bne_iff_ne.mpr j0;have z4:=a0_ H;clear H;obtain⟨b8,b9,G5⟩:=Kd.R_slice HO_8.out;subst G5;have p8:=t0_ (x1_1);have q8:=tl_ (x1_1) (a0.size);have hx8:=cK a0 x1_1;go_upto_region 23 with(fail);go_cut [79] (fun J6 wc=> ∃ (kq:Nat) (j4:Bool),J6 = .bool j4∧ab (ah.j1 kq a0 x1_1 x8_1 x9_1 g3 g2 (wrap64 (bt a0 x1_1)) j4=some (r1,r2,r3,r4))∧ab (kq≤k1)∧ab (Kd.R Kd.string 9 wc w.heap.size (fun _=>True) (.slice b8 x8_1.length b9) x8_1)∧ab (Kd.R (Kd.int .i64) 3 wc w.heap.size (fun _=>True) u9 x9_1)∧ab (Below w.heap.size w wc))
   case first=>
    have H:=z4.out;clear z4
    by_cases y1:(wrap64 (bt a0 x1_1))>20
    case neg=>
     rw[if_neg y1]at H;have g8:=decide_eq_false y1;clear y1
     (first|rw[g8]|(simp only[bu,bI];rw[g8])|skip)
     have H':=a0_ H;clear H;go_wp2;go_meet
     case rel=>exact⟨_,(decide ((wrap64 ((wrap64 (x1_1+1))+(wrap64 (bt a0 x1_1))))>(a0.size:Int))),rs_,H',jl_ HK1,⟨kR_ HO_8.out⟩,⟨kR_ HO_9.out⟩,⟨ay⟩⟩
    rw[if_pos y1]at H;have g8:=decide_eq_true y1;clear y1
    (first|rw[g8]|(simp only[bu,bI];rw[g8])|skip)
    have H':=a0_ H;clear H;go_wp2;go_meet
    case rel=>exact⟨_,(true),rs_,H',jl_ HK1,⟨kR_ HO_8.out⟩,⟨kR_ HO_9.out⟩,⟨ay⟩⟩
   case rest=>
    clear z4
    try clear c1
    try clear p2
    try clear c3
    try clear c3b0
    try clear c3b1
    try clear c4
    try clear c4b0
    try clear c6
    try clear c6b0
    try clear c7
    try clear c7b0
    try clear p8
    try clear q8
    try clear hx8
    try clear c9
    try clear c9b0
    try clear j0
    try clear y2
    try clear y3
    try clear p2
    try clear p8
    try clear q8
    obtain⟨kq,j4,rfl,HA,HJ36,HO_8,HO_9,HB⟩:=hcut
    cases kq with
    | zero=>exact absurd HA.out (by simp[ah.j1])
    | succ kj36=>
     have H:=HA.out;clear HA;simp only[ah.j1]at H
     by_cases b1:j4=true
     case pos=>
      subst b1;rw[if_pos rfl]at H;simp only[Option.some.injEq,Prod.mk.injEq]at H;obtain⟨rfl,rfl,rfl,rfl⟩:=H;go_wp2
      refine bodyPost_ret (cQ (rs:=[.tmp 4,.tmp 5,.tmp 6,.tmp 7]) rfl (by simp) (.tmp (.tmp (.tmp (.tmp .nil))))) rfl ?_
      exact⟨_,rr_,by first|exact Kd.R_nil _ _ _ _ _|exact Kd.N_nil _ _ _ _ _|exact Kd.V_nil _ _ _ _ _|exact Kd.Q_nil _ _ _ _ _|exact Kd.S_nil _ _ _ _ _,ay⟩
     replace b1:=Bool.eq_false_iff.mpr b1;subst b1;rw[if_neg ff_]at H;have z5:=a0_ H;clear H;go_upto_if 81 with(fail);go_cut [9] (fun v9 wc=> ∃ (kq:Nat) (x9_40:List Int),ab (ah.j2 kq a0 x1_1 x8_1 x9_40 g3 g2 (wrap64 (bt a0 x1_1))=some (r1,r2,r3,r4))∧ab (kq≤kj36)∧ab (Kd.R Kd.string 9 wc w.heap.size (fun _=>True) (.slice b8 x8_1.length b9) x8_1)∧ab (Kd.R (Kd.int .i64) 3 wc w.heap.size (fun _=>True) v9 x9_40)∧ab (Below w.heap.size w wc))
     case first=>
      have H:=z5.out;clear z5
      by_cases y5:g2<0
      case neg=>
       rw[if_neg y5]at H;have g9:=decide_eq_false y5;clear y5
       (first|rw[g9]|(simp only[bu,bI];rw[g9])|skip)
       have H':=a0_ H;clear H;go_wp2;go_meet
       case rel=>exact⟨_,(x9_1),H',⟨by have:=HK1.out;have:=HJ36.out;first|omega|exact Nat.le_refl _⟩,⟨kR_ HO_8.out⟩,⟨kR_ HO_9.out⟩,⟨ay⟩⟩
      rw[if_pos y5]at H;have g9:=decide_eq_true y5;clear y5
      (first|rw[g9]|(simp only[bu,bI];rw[g9])|skip)
      by_cases d7:x9_1.length<17592186044416
      case neg=>
       rw[if_neg d7]at H;exact absurd H (by simp)
      rw[if_pos d7]at H;have f4:=a0_ d7;clear d7;obtain⟨f3,j5⟩:∃ y_:List Int,y_=(x9_1 ++ [x1_1]):=⟨_,rfl⟩
      replace H:(ah.j2 kj36 a0 x1_1 x8_1 f3 g3 g2 (wrap64 (bt a0 x1_1)))=some (r1,r2,r3,r4):=by first|(rw[j5];with_reducible exact H)|(have H2_:=(Option.bind_some _ _).symm.trans H;rw[j5];with_reducible exact H2_)|(have H2_:=(Option.bind_some _ _).symm.trans H;with_reducible exact H2_)|with_reducible exact H|(rw[j5];exact H)|exact H
      have f5:=a0_ j5;clear j5;have H':=a0_ H;clear H;go_wp2_with (first|((with_reducible refine bz (b:=.append) (xs:=#[.tmp 82,.tmp 84]) rfl ?_);(try(refine bP (by rfl) ?_;dsimp only));at_builtin;refine Kd.R_append (Kd.int .i64) (w0:=w) w.heap.size rfl (.tmp 82) (.tmp 84) 131 3 (.int .i64 0) 8 rfl Tryz.underlying131 nT rfl (by decide) (by omega) u9 x9_1 x1_1 [.int .i64 x1_1] (fun _=>True) (fun _=>False) rfl rfl ?aP (fun _ hk=>hk.elim) ?aF ?aO ?aB ?aS ?aL ?_;(case aP=>exact rfl);(case aB=>exact ay);(case aF=>exact(fun _ _=>trivial));(case aO=>exact(kR_ HO_9.out));(case aS=>exact(aj ay));(case aL=>have:=f4.out;omega);intro D7 Y1 ho hb hg hat;rw[← f5.out]at ho;replace HO_8:=a0_ (Kd.R_over' (kR_ HO_8.out) (Kd.R_typed (kR_ HO_9.out)) (by decide) hg);replace HB:=a0_ (hb);have f6:=a0_ (ho);clear HO_9;clear ho hb hg hat));go_meet
      case rel=>exact⟨_,(f3),H',⟨by have:=HK1.out;have:=HJ36.out;first|omega|exact Nat.le_refl _⟩,⟨kR_ HO_8.out⟩,⟨kR_ f6.out⟩,⟨ay⟩⟩
     case rest=>
      clear z5
      try clear c1
      try clear p1
      try clear q1
      try clear hx1
      try clear c2
      try clear p2
      try clear q2
      try clear hx2
      try clear c3
      try clear c3b0
      try clear c3b1
      try clear c4
      try clear c4b0
      try clear c6
      try clear c6b0
      try clear p6
      try clear c7
      try clear c7b0
      try clear p8
      try clear q8
      try clear hx8
      try clear c9
      try clear c9b0
      try clear j6
      try clear j3
      try clear J7
      try clear j7
      try clear b4
      try clear y9
      try clear z8
      try clear b0
      try clear z9
      try clear J8
      try clear d5
      try clear d6
      try clear z1
      try clear j9
      try clear b6
      try clear y7
      try clear z6
      try clear y8
      try clear z7
      try clear d3
      try clear d4
      try clear z0
      try clear j8
      try clear b5
      try clear j0
      try clear y2
      try clear y3
      try clear y0
      try clear b7
      try clear y1
      try clear g8
      try clear b1
      try clear p1
      try clear d5
      try clear p2
      try clear d3
      try clear p6
      try clear p8
      try clear q1
      try clear d6
      try clear q2
      try clear d4
      try clear q8
      obtain⟨kq,x9_40,HA,HJ40,HO_8,HO_9,HB⟩:=hcut
      cases kq with
      | zero=>exact absurd HA.out (by simp[ah.j2])
      | succ kj40=>
       have H:=HA.out;clear HA;simp only[ah.j2]at H;obtain⟨g0,y4⟩:∃ j_:Int,(wrap64 (x1_1+1))=j_:=⟨_,rfl⟩
       (first|rw[y4]at H|simp only[y4]at H)
       have J9:(IntKind.i64.wrap (x1_1+1))=g0:=(bu _).trans y4
       by_cases b2:0≤(g0)
       case neg=>
        rw[if_neg b2]at H;exact absurd H (by simp)
       rw[if_pos b2]at H;have f7:=eq_true b2;have f8:=decide_eq_true b2;clear b2
       by_cases d8:(g0)≤(wrap64 ((g0)+(wrap64 (bt a0 x1_1))))
       case neg=>
        rw[if_neg d8]at H;exact absurd H (by simp)
       rw[if_pos d8]at H;have f9:=eq_true d8;have T0:=decide_eq_true d8
       by_cases d9:(wrap64 ((g0)+(wrap64 (bt a0 x1_1))))≤(a0.size:Int)
       case neg=>
        rw[if_neg d9]at H;exact absurd H (by simp)
       rw[if_pos d9]at H;have T1:=eq_true d9;have T2:=decide_eq_true d9;have H':=a0_ H;clear H;go_wp2;go_loopg [16] kj40 (fun kq Q0 w'=> ∃ (g1:Int),Q0 = .int .i64 g1∧ab (ah.l1 kq a0 x1_1 x8_1 x9_40 g3 g2 (wrap64 (bt a0 x1_1)) (a0.extract ((g0):Int).toNat ((wrap64 ((g0)+(wrap64 (bt a0 x1_1)))):Int).toNat) g1=some (r1,r2,r3,r4))∧ab (kq≤kj40)∧ab (Kd.R Kd.string 9 w' w.heap.size (fun _=>True) (.slice b8 x8_1.length b9) x8_1)∧ab (Kd.R (Kd.int .i64) 3 w' w.heap.size (fun _=>True) u9 x9_40)∧ab (Below w.heap.size w w'))
       case atStart=>exact⟨(0),rs_,H',⟨Nat.le_refl _⟩,⟨kR_ HO_8.out⟩,⟨kR_ HO_9.out⟩,⟨ay⟩⟩
       case round=>
        clear H'
        try clear c1
        try clear p1
        try clear q1
        try clear hx1
        try clear c2
        try clear p2
        try clear q2
        try clear hx2
        try clear c3
        try clear c3b0
        try clear c3b1
        try clear c4
        try clear c4b0
        try clear c6
        try clear c6b0
        try clear p6
        try clear c7
        try clear c7b0
        try clear p8
        try clear q8
        try clear hx8
        try clear c9
        try clear c9b0
        try clear j6
        try clear j3
        try clear J7
        try clear j7
        try clear b4
        try clear y9
        try clear z8
        try clear b0
        try clear z9
        try clear J8
        try clear d5
        try clear d6
        try clear z1
        try clear j9
        try clear b6
        try clear y7
        try clear z6
        try clear y8
        try clear z7
        try clear d3
        try clear d4
        try clear z0
        try clear j8
        try clear b5
        try clear j0
        try clear y2
        try clear y3
        try clear y0
        try clear b7
        try clear y1
        try clear g8
        try clear b1
        try clear y5
        try clear g9
        try clear d7
        try clear b2
        try clear f7
        try clear f8
        try clear d8
        try clear f9
        try clear T0
        try clear d9
        try clear T1
        try clear T2
        try clear p1
        try clear d5
        try clear p2
        try clear d3
        try clear p6
        try clear p8
        try clear q1
        try clear d6
        try clear q2
        try clear d4
        try clear q8
        obtain⟨g1,rfl,HA,HK4,HO_8,HO_9,HB⟩:=hrel
        cases gk with
        | zero=>exact absurd HA.out (by simp[ah.l1])
        | succ k4=>
         have H:=HA.out;clear HA;simp only[ah.l1]at H
         by_cases b3:g1<(wrap64 (bt a0 x1_1))
         case neg=>
          rw[if_neg b3]at H;have T3:=decide_eq_false b3;clear b3
          by_cases f0:x8_1.length<8796093022208
          case neg=>
           rw[if_neg f0]at H;exact absurd H (by simp)
          rw[if_pos f0]at H;have T4:=a0_ f0;clear f0;obtain⟨G6,d0⟩:∃ y_:List ByteArray,y_=(x8_1 ++ [(a0.extract ((g0):Int).toNat ((wrap64 ((g0)+(wrap64 (bt a0 x1_1)))):Int).toNat)]):=⟨_,rfl⟩;rw[← d0]at H;have T5:=a0_ d0;clear d0;have H':=a0_ H;clear H;go_wp2_with (first|((with_reducible refine bz (b:=.append) (xs:=#[.tmp 103,.tmp 105]) rfl ?_);(try(refine bP (by rfl) ?_;dsimp only));at_builtin;refine Kd.R_append Kd.string (w0:=w) w.heap.size rfl (.tmp 103) (.tmp 105) 78 9 (.string ⟨#[]⟩) 16 rfl Tryz.underlying78 jd rfl (by decide) (by omega) (.slice b8 x8_1.length b9) x8_1 (a0.extract ((g0):Int).toNat ((wrap64 ((g0)+(wrap64 (bt a0 x1_1)))):Int).toNat) [.string (a0.extract ((g0):Int).toNat ((wrap64 ((g0)+(wrap64 (bt a0 x1_1)))):Int).toNat)] (fun _=>True) (fun _=>False) rfl rfl ?aP (fun _ hk=>hk.elim) ?aF ?aO ?aB ?aS ?aL ?_;(case aP=>exact rfl);(case aB=>exact ay);(case aF=>exact(fun _ _=>trivial));(case aO=>exact(kR_ HO_8.out));(case aS=>exact(aj ay));(case aL=>have:=T4.out;omega);intro D8 Y2 ho hb hg hat;rw[← T5.out]at ho;replace HO_9:=a0_ (Kd.R_over' (kR_ HO_9.out) (Kd.R_typed (kR_ HO_8.out)) (by decide) hg);replace HB:=a0_ (hb);have T6:=a0_ (ho);clear HO_8;clear ho hb hg hat));go_roundg k4
          case measure=>have:=HK1.out;have:=HJ36.out;have:=HJ40.out;have:=HK4.out;omega
          case rel=>exact⟨(wrap64 (x1_1+(wrap64 (1+(wrap64 (bt a0 x1_1)))))),(G6),(x9_40),(g3),(g2),rs_,rs_,rs_,H',⟨by have:=HK1.out;have:=HJ36.out;have:=HJ40.out;have:=HK4.out;omega⟩,⟨kR_ T6.out⟩,⟨kR_ HO_9.out⟩,⟨ay⟩⟩
         rw[if_pos b3]at H;have T3:=decide_eq_true b3;clear b3
         by_cases f1:0≤g1
         case neg=>
          rw[if_neg f1]at H;exact absurd H (by simp)
         rw[if_pos f1]at H;have Q3:=decide_eq_true f1;clear f1
         by_cases f2:g1<((a0.extract ((g0):Int).toNat ((wrap64 ((g0)+(wrap64 (bt a0 x1_1)))):Int).toNat).size:Int)
         case neg=>
          rw[if_neg f2]at H;exact absurd H (by simp)
         rw[if_pos f2]at H;have Q4:=decide_eq_true f2;clear f2
         by_cases y6:(bt (a0.extract ((g0):Int).toNat ((wrap64 ((g0)+(wrap64 (bt a0 x1_1)))):Int).toNat) g1)=46
         case neg=>
          rw[if_neg y6]at H;have T7:=beq_eq_false_iff_ne.mpr y6;have T8:=bne_iff_ne.mpr y6;have H':=a0_ H;clear H;have Q1:=t0_ (g1);have Q2:=tl_ (g1) ((a0.extract ((g0):Int).toNat ((wrap64 ((g0)+(wrap64 (bt a0 x1_1)))):Int).toNat).size);have G7:=cK (a0.extract ((g0):Int).toNat ((wrap64 ((g0)+(wrap64 (bt a0 x1_1)))):Int).toNat) g1;go_wp2;go_roundg k4
          case measure=>have:=HK1.out;have:=HJ36.out;have:=HJ40.out;have:=HK4.out;omega
          case rel=>exact⟨(wrap64 (g1+1)),rs_,H',⟨by have:=HK1.out;have:=HJ36.out;have:=HJ40.out;have:=HK4.out;omega⟩,⟨kR_ HO_8.out⟩,⟨kR_ HO_9.out⟩,⟨ay⟩⟩
         rw[if_pos y6]at H;have T7:=beq_iff_eq.mpr y6;have T8:=bne_eq_false_iff_eq.mpr y6;clear y6;simp only[Option.some.injEq,Prod.mk.injEq]at H;obtain⟨rfl,rfl,rfl,rfl⟩:=H;have Q1:=t0_ (g1);have Q2:=tl_ (g1) ((a0.extract ((g0):Int).toNat ((wrap64 ((g0)+(wrap64 (bt a0 x1_1)))):Int).toNat).size);have G7:=cK (a0.extract ((g0):Int).toNat ((wrap64 ((g0)+(wrap64 (bt a0 x1_1)))):Int).toNat) g1;go_wp2
         refine bodyPost_ret (cQ (rs:=[.tmp 4,.tmp 5,.tmp 6,.tmp 7]) rfl (by simp) (.tmp (.tmp (.tmp (.tmp .nil))))) rfl ?_
         exact⟨_,by first|rfl|(simp[bY,bZ]<;>rfl)|(simp only[← y4];first|rfl|(simp[bY,bZ]<;>rfl))|(simp[*,bY,bZ]<;>rfl),by first|exact Kd.R_nil _ _ _ _ _|exact Kd.N_nil _ _ _ _ _|exact Kd.V_nil _ _ _ _ _|exact Kd.Q_nil _ _ _ _ _|exact Kd.S_nil _ _ _ _ _,ay⟩
end Go.Proofs.YtiegkjimpclmaaaGreatDoor.P
namespace Go.Proofs.YtiegkjimpclmaaaGreatDoor.P
attribute [local go_sem] cG cD c_ cZ ci ch cE cH
def cP.l0: Nat→List (S45)→List (S45)→List (S45)→Int→Int→Option ((List (S83))×Bool)
 | 0,_,_,_,_,_=>none
 | k+1,x0,x4,x9,g2,g0=>if g0<g2 then(if 0≤g0 then(if g0<(x9.length:Int)then((cf.f k ((ae x9 g0).f0) ((ae x9 g0).f1) ((ae x9 g0).f2) ((ae x9 g0).f3)).bind fun g3=>(if g3=true then((aY.f k x4 ((ae x9 g0).f0) ((ae x9 g0).f1) ((ae x9 g0).f2) ((ae x9 g0).f3)).bind fun g4=>(cP.l0 k x0 g4 x9 g2 (wrap64 (g0+1))))else(some (([]:List (S83)),false))))else(none))else(none))else((av.f k x4).bind fun g1=>(if g1.2=true then(if(x0.length:Int)>60 then(some (([]:List (S83)),false))else(some (g1.1,true)))else(some (([]:List (S83)),false))))
def cP.f(k:Nat)(l0:List (S45)): Option ((List (S83))×Bool):=cP.l0 k l0 ([]:List (S45)) l0 (l0.length:Int) 0
theorem cP.c(k:Nat)(A0:Option Addr)(c0:Nat)(l0:List (S45))(r1:List (S83))(r2:Bool)(w:World)(hr0:Kd.C k45 w A0 l0.length l0)(hc0:l0.length≤c0)(h:cP.f k l0=some (r1,r2)):
 Calls Tryz.prog 22 #[.slice A0 l0.length c0] w fun e w'=> ∃ v0_:Value,e = .returned (.tuple #[v0_,.bool r2])∧Kd.S k83 83 w' w.heap.size (fun _=>True) v0_ r1∧Below w.heap.size w w':=by
 have hu45:=Tryz.underlying45;have HR0:=a0_ hr0;have HC0:=a0_ hc0;clear hr0 hc0;have HB:=a0_ (Below.refl w.heap.size w);have H:=h;clear h;unfold cP.f at H;have H':=a0_ H;clear H;go_enter Tryz.func22,Tryz.ntmps22;go_wp2;go_loopg [4,11] k (fun kq v4 b7 w'=> ∃ (x4_1:List (S45)) (g0:Int),b7 = .int .i64 g0∧ab (cP.l0 kq l0 x4_1 l0 (l0.length:Int) g0=some (r1,r2))∧ab (kq≤k)∧ab (Kd.R k45 45 w' w.heap.size (fun _=>True) v4 x4_1)∧ab (Below w.heap.size w w'))
 case atStart=>exact⟨(([]:List (S45))),(0),rs_,H',⟨Nat.le_refl _⟩,⟨by first|exact Kd.R_nil _ _ _ _ _|exact Kd.N_nil _ _ _ _ _|exact Kd.V_nil _ _ _ _ _|exact Kd.Q_nil _ _ _ _ _|exact Kd.S_nil _ _ _ _ _⟩,⟨ay⟩⟩
 case round=>
  clear H';obtain⟨x4_1,g0,rfl,HA,HK1,HO_4,HB⟩:=hrel
  cases gk with
  | zero=>exact absurd HA.out (by simp[cP.l0])
  | succ k1=>
   have H:=HA.out;clear HA;simp only[cP.l0]at H
   by_cases c2:g0<(l0.length:Int)
   case neg=>
    rw[if_neg c2]at H;have c2b0:=decide_eq_false c2;clear c2;obtain⟨⟨g6,y5⟩,j7,H⟩:=ob_ H
    by_cases j2:y5=true
    case neg=>
     replace j2:=Bool.eq_false_iff.mpr j2;subst j2;rw[if_neg ff_]at H;simp only[Option.some.injEq,Prod.mk.injEq]at H;obtain⟨rfl,rfl⟩:=H;obtain⟨y6,y7,y8⟩:=Kd.R_slice HO_4.out;subst y8;go_wp2_with (first|((with_reducible refine gt_ 63 rfl ?_);refine gs_ 24 Tryz.func63 #[.slice y6 x4_1.length y7] ?_;(with_reducible refine(av.c k1 _ _ x4_1 g6 false _ ?side1 ?side2 j7.out).mono ?_);(case side1=>exact kD_ (Kd.R_reads' HO_4.out).2.2);(case side2=>exact(Kd.R_reads' HO_4.out).2.1);rintro e b9 ⟨j8,rfl,ho0,hb⟩;refine⟨_,rfl,?_⟩;replace HO_4:=a0_ (Kd.R_below (kR_ HO_4.out) hb);have g4:=a0_ (Kd.S_lower ho0 (aj ay));replace HB:=a0_ (aa ay hb);clear hb;(try clear ho0)));go_ret2;exact⟨_,rr_,by first|exact Kd.S_nil _ _ _ _ _|exact Kd.N_nil _ _ _ _ _|exact Kd.V_nil _ _ _ _ _|exact Kd.Q_nil _ _ _ _ _|exact Kd.R_nil _ _ _ _ _,ay⟩
    subst j2;rw[if_pos rfl]at H
    by_cases g3:(l0.length:Int)>60
    case neg=>
     rw[if_neg g3]at H;have y0:=decide_eq_false g3;have y1:decide (60<l0.length)=false:=decide_eq_false (by omega);clear g3;simp only[Option.some.injEq,Prod.mk.injEq]at H;obtain⟨rfl,rfl⟩:=H;obtain⟨y9,b0,b1⟩:=Kd.R_slice HO_4.out;subst b1;go_wp2_with (first|((with_reducible refine gt_ 63 rfl ?_);refine gs_ 24 Tryz.func63 #[.slice y9 x4_1.length b0] ?_;(with_reducible refine(av.c k1 _ _ x4_1 g6 true _ ?side1 ?side2 j7.out).mono ?_);(case side1=>exact kD_ (Kd.R_reads' HO_4.out).2.2);(case side2=>exact(Kd.R_reads' HO_4.out).2.1);rintro e d0 ⟨j8,rfl,ho0,hb⟩;refine⟨_,rfl,?_⟩;replace HO_4:=a0_ (Kd.R_below (kR_ HO_4.out) hb);have g4:=a0_ (Kd.S_lower ho0 (aj ay));replace HB:=a0_ (aa ay hb);clear hb;(try clear ho0)));go_ret2;exact⟨_,rr_,kS_ g4.out,ay⟩
    rw[if_pos g3]at H;have y0:=decide_eq_true g3;have y1:decide (60<l0.length)=true:=decide_eq_true (by omega);clear g3;simp only[Option.some.injEq,Prod.mk.injEq]at H;obtain⟨rfl,rfl⟩:=H;obtain⟨b2,b3,b4⟩:=Kd.R_slice HO_4.out;subst b4;go_wp2_with (first|((with_reducible refine gt_ 63 rfl ?_);refine gs_ 24 Tryz.func63 #[.slice b2 x4_1.length b3] ?_;(with_reducible refine(av.c k1 _ _ x4_1 g6 true _ ?side1 ?side2 j7.out).mono ?_);(case side1=>exact kD_ (Kd.R_reads' HO_4.out).2.2);(case side2=>exact(Kd.R_reads' HO_4.out).2.1);rintro e d3 ⟨j8,rfl,ho0,hb⟩;refine⟨_,rfl,?_⟩;replace HO_4:=a0_ (Kd.R_below (kR_ HO_4.out) hb);have g4:=a0_ (Kd.S_lower ho0 (aj ay));replace HB:=a0_ (aa ay hb);clear hb;(try clear ho0)));go_ret2;exact⟨_,rr_,by first|exact Kd.S_nil _ _ _ _ _|exact Kd.N_nil _ _ _ _ _|exact Kd.V_nil _ _ _ _ _|exact Kd.Q_nil _ _ _ _ _|exact Kd.R_nil _ _ _ _ _,ay⟩
   rw[if_pos c2]at H;have c2b0:=decide_eq_true c2;clear c2
   by_cases c3:0≤g0
   case neg=>
    rw[if_neg c3]at H;exact absurd H (by simp)
   rw[if_pos c3]at H;have c3b0:=decide_eq_true c3;clear c3
   by_cases c4:g0<(l0.length:Int)
   case neg=>
    rw[if_neg c4]at H;exact absurd H (by simp)
   rw[if_pos c4]at H;have c4b0:=decide_eq_true c4;clear c4;obtain⟨b5,A5,H⟩:=ob_ H
   by_cases c6:b5=true
   case neg=>
    replace c6:=Bool.eq_false_iff.mpr c6;subst c6;rw[if_neg ff_]at H;simp only[Option.some.injEq,Prod.mk.injEq]at H;obtain⟨rfl,rfl⟩:=H;have g7:=t0_ (g0);have g8:=tl_ (g0) (l0.length);obtain⟨y2,g9,-,-,-,-,j3,j4,j5,j6⟩:=rp_ HB (dN HR0.out g0 (of_eq_true g7) (of_eq_true g8));cases g9;go_wp2_with (first|((with_reducible refine ax (N:=6) rfl ?_);(try(refine bP (by rfl) ?_;dsimp only));refine cm 6 #[.string (⟨#[]⟩:ByteArray),.int .i64 0,.int .i64 0,.string (⟨#[]⟩:ByteArray)] 45 (fun g1 hg d4 hbox hb=>?_);replace HO_4:=a0_ (Kd.R_below (Kd.R_elderB (kR_ HO_4.out) g1 (Nat.le_of_eq hg.symm)) hb);have g2:=a0_ (hbox);have g5:=a0_ (gw_ hg:w.heap.size≤g1);replace HB:=a0_ (aa ay hb);have y3:=g5;clear hb hbox hg;obtain⟨_,_,_,_,_,_,_,_⟩:=cY g2.out)|((with_reducible refine gt_ 61 rfl ?_);refine gs_ 16 Tryz.func61 #[.agg #[.string ((ae l0 g0).f0),.int .i64 ((ae l0 g0).f1),.int .i64 ((ae l0 g0).f2),.string ((ae l0 g0).f3)]] ?_;(with_reducible refine(cf.c k1 ((ae l0 g0).f0) ((ae l0 g0).f1) ((ae l0 g0).f2) ((ae l0 g0).f3) false _ A5.out).mono ?_);rintro e d5 ⟨rfl,hb⟩;refine⟨_,rfl,?_⟩;replace HO_4:=a0_ (Kd.R_below (kR_ (Kd.R_mono (fX g1 (Kd.R_mono HO_4.out (fun k_ hk=>(⟨hk,hk.2⟩:_∧k_≠g1))) (fun _ hk=>hk.2) (.string ((ae l0 g0).f0)) (.int .i64 ((ae l0 g0).f1)) (.int .i64 ((ae l0 g0).f2)) (.string ((ae l0 g0).f3))) (fun _ h_=>h_.1))) hb);replace g2:=a0_ (b_ (g:=g1) (o:=.cells #[.string ((ae l0 g0).f0),.int .i64 ((ae l0 g0).f1),.int .i64 ((ae l0 g0).f2),.string ((ae l0 g0).f3)] 45 (0,0)) (fl g2.out) hb);replace HB:=a0_ (aa aD hb);clear hb));go_ret2;exact⟨_,rr_,by first|exact Kd.S_nil _ _ _ _ _|exact Kd.N_nil _ _ _ _ _|exact Kd.V_nil _ _ _ _ _|exact Kd.Q_nil _ _ _ _ _|exact Kd.R_nil _ _ _ _ _,aD⟩
   subst c6;rw[if_pos rfl]at H;obtain⟨j9,A7,H⟩:=ob_ H;have H':=a0_ H;clear H;have g7:=t0_ (g0);have g8:=tl_ (g0) (l0.length);obtain⟨y2,g9,-,-,-,-,j3,j4,j5,j6⟩:=rp_ HB (dN HR0.out g0 (of_eq_true g7) (of_eq_true g8));cases g9;go_wp2_with (first|((with_reducible refine ax (N:=6) rfl ?_);(try(refine bP (by rfl) ?_;dsimp only));refine cm 6 #[.string (⟨#[]⟩:ByteArray),.int .i64 0,.int .i64 0,.string (⟨#[]⟩:ByteArray)] 45 (fun g1 hg w8 hbox hb=>?_);replace HO_4:=a0_ (Kd.R_below (Kd.R_elderB (kR_ HO_4.out) g1 (Nat.le_of_eq hg.symm)) hb);have g2:=a0_ (hbox);have g5:=a0_ (gw_ hg:w.heap.size≤g1);replace HB:=a0_ (aa ay hb);have y3:=g5;clear hb hbox hg;obtain⟨_,_,_,_,_,_,_,_⟩:=cY g2.out)|((with_reducible refine gt_ 61 rfl ?_);refine gs_ 16 Tryz.func61 #[.agg #[.string ((ae l0 g0).f0),.int .i64 ((ae l0 g0).f1),.int .i64 ((ae l0 g0).f2),.string ((ae l0 g0).f3)]] ?_;(with_reducible refine(cf.c k1 ((ae l0 g0).f0) ((ae l0 g0).f1) ((ae l0 g0).f2) ((ae l0 g0).f3) true _ A5.out).mono ?_);rintro e d6 ⟨rfl,hb⟩;refine⟨_,rfl,?_⟩;replace HO_4:=a0_ (Kd.R_below (kR_ (Kd.R_mono (fX g1 (Kd.R_mono HO_4.out (fun k_ hk=>(⟨hk,hk.2⟩:_∧k_≠g1))) (fun _ hk=>hk.2) (.string ((ae l0 g0).f0)) (.int .i64 ((ae l0 g0).f1)) (.int .i64 ((ae l0 g0).f2)) (.string ((ae l0 g0).f3))) (fun _ h_=>h_.1))) hb);replace g2:=a0_ (b_ (g:=g1) (o:=.cells #[.string ((ae l0 g0).f0),.int .i64 ((ae l0 g0).f1),.int .i64 ((ae l0 g0).f2),.string ((ae l0 g0).f3)] 45 (0,0)) (fl g2.out) hb);replace HB:=a0_ (aa aD hb);clear hb;obtain⟨_,_,_,_,_,_,_,_⟩:=cY g2.out;obtain⟨j0,j1,b6⟩:=Kd.R_slice HO_4.out;subst b6)|((with_reducible refine gt_ 72 rfl ?_);refine gs_ 20 Tryz.func72 #[.slice j0 x4_1.length j1,.agg #[.string ((ae l0 g0).f0),.int .i64 ((ae l0 g0).f1),.int .i64 ((ae l0 g0).f2),.string ((ae l0 g0).f3)]] ?_;(with_reducible refine(aY.c k1 (fun k_=>some k_=(.slice j0 x4_1.length j1:Value).ownBlock) (.slice j0 x4_1.length j1) x4_1 ((ae l0 g0).f0) ((ae l0 g0).f1) ((ae l0 g0).f2) ((ae l0 g0).f3) j9 w _ ?side1 ?side2 A7.out).mono ?_);(case side1=>exact ca);(case side2=>exact Kd.R_tight rfl HO_4.out);rintro e d7 ⟨b8,rfl,ho0,hb,hkp⟩;refine⟨_,rfl,?_⟩;have y4:=a0_ (Kd.R_mono (ok':=fun k_=>k_≠g1) ho0 (fun k_ hk_=>Or.elim hk_ (fun hs_=>fun e_=>(Kd.R_away HO_4.out (fun _ hk=>hk.2)) (by rw[← e_];exact hs_)) (fun hn_=>(Kd.freshB (g:=g1) (o:=.cells #[.string ((ae l0 g0).f0),.int .i64 ((ae l0 g0).f1),.int .i64 ((ae l0 g0).f2),.string ((ae l0 g0).f3)] 45 (0,0)) (kB_ g2.out) k_ hn_))));replace g2:=a0_ (kn (kB_ g2.out) hkp (fun hs_=>(fun e_=>(Kd.R_away HO_4.out (fun _ hk=>hk.2)) e_) hs_));replace HB:=a0_ (hb);clear HO_4;clear hb;(try clear hkp);(try clear ho0)));go_roundg k1
   case measure=>have:=HK1.out;omega
   case rel=>exact⟨(j9),(wrap64 (g0+1)),rs_,H',jl_ HK1,⟨kR_ (Kd.R_mono y4.out (fun _ hk=>trivial))⟩,⟨aD⟩⟩
end Go.Proofs.YtiegkjimpclmaaaGreatDoor.P
namespace Go.Proofs.YtiegkjimpclmaaaGreatDoor.P
def bK.f(k:Nat)(a0_0:Int)(a0_1:Bool)(a0_2:Bool)(a0_3:Int)(a0_4:ByteArray)(a0_5:Int)(l0_6:List (S45))(l0_7:List (S45)): Option (Bool):=(cj.f a0_0 0 65535).bind fun g0=>(if g0=true then((cI.f k (([0,1,3,5]:List Int)) a0_3).bind fun g1=>(if g1=true then((dv.f k a0_4).bind fun g2=>(if g2=true then((fu.f k a0_5).bind fun g3=>(if g3=true then((bS.f k l0_6).bind fun g4=>(if g4=true then((bS.f k l0_7).bind fun g5=>(if g5=true then(if a0_1=true then(some true)else(if a0_2=true then(some false)else(if a0_3=0 then(if(l0_6.length:Int)=0 then(some ((l0_7.length:Int)==0))else(some false))else(some false))))else(some false)))else(some false)))else(some false)))else(some false)))else(some false)))else(some false))
theorem bK.c(k:Nat)(a0_0:Int)(a0_1:Bool)(a0_2:Bool)(a0_3:Int)(a0_4:ByteArray)(a0_5:Int)(A0_6:Option Addr)(c0_6:Nat)(l0_6:List (S45))(A0_7:Option Addr)(c0_7:Nat)(l0_7:List (S45))(r:Bool)(w:World)(hr0_6:Kd.C k45 w A0_6 l0_6.length l0_6)(hc0_6:l0_6.length≤c0_6)(hr0_7:Kd.C k45 w A0_7 l0_7.length l0_7)(hc0_7:l0_7.length≤c0_7)(h:bK.f k a0_0 a0_1 a0_2 a0_3 a0_4 a0_5 l0_6 l0_7=some r):
 Calls Tryz.prog 101 #[.agg #[.int .i64 a0_0,.bool a0_1,.bool a0_2,.int .i64 a0_3,.string a0_4,.int .i64 a0_5,.slice A0_6 l0_6.length c0_6,.slice A0_7 l0_7.length c0_7]] w fun e w'=>e = .returned (.bool r)∧Below w.heap.size w w':=by
 have R6:=a0_ hr0_6;have C6:=a0_ hc0_6;have R7:=a0_ hr0_7;have C7:=a0_ hc0_7;clear hr0_6 hc0_6 hr0_7 hc0_7;have HB:=a0_ (Below.refl w.heap.size w);unfold bK.f at h;obtain⟨y,hy⟩:∃ y:List Int,y=[0,1,3,5]:=⟨_,rfl⟩;rw[← hy]at h;have NY:=a0_ hy;clear hy;obtain⟨t,E1,h⟩:=ob_ h
 cases t<;>simp only[if_true,Bool.false_eq_true,if_false]at h
 all_goals try(obtain⟨t,E2,h⟩:=ob_ h;cases t<;>simp only[if_true,Bool.false_eq_true,if_false]at h)
 all_goals try(obtain⟨t,E3,h⟩:=ob_ h;cases t<;>simp only[if_true,Bool.false_eq_true,if_false]at h)
 all_goals try(obtain⟨t,E4,h⟩:=ob_ h;cases t<;>simp only[if_true,Bool.false_eq_true,if_false]at h)
 all_goals try(obtain⟨t,E5,h⟩:=ob_ h;cases t<;>simp only[if_true,Bool.false_eq_true,if_false]at h)
 all_goals try(obtain⟨t,E6,h⟩:=ob_ h;cases t<;>simp only[if_true,Bool.false_eq_true,if_false]at h)
 all_goals try(by_cases c1:a0_1=true<;>first|simp only[if_pos c1]at h|(simp only[if_neg c1]at h;replace c1:=Bool.eq_false_iff.mpr c1))
 all_goals try(by_cases c2:a0_2=true<;>first|simp only[if_pos c2]at h|(simp only[if_neg c2]at h;replace c2:=Bool.eq_false_iff.mpr c2))
 all_goals try(by_cases c3:a0_3=0<;>first|(simp only[if_pos c3]at h;have d3:=beq_iff_eq.mpr c3;have d3':=bne_eq_false_iff_eq.mpr c3;clear c3)|(simp only[if_neg c3]at h;have d3:=beq_eq_false_iff_ne.mpr c3;have d3':=bne_iff_ne.mpr c3))
 all_goals try(by_cases c4:(l0_6.length:Int)=0<;>first|(simp only[if_pos c4]at h;have d4:=beq_iff_eq.mpr c4;clear c4)|(simp only[if_neg c4]at h;have d4:=beq_eq_false_iff_ne.mpr c4))
 all_goals(
  obtain rfl:=Option.some.inj h;clear h;go_enter Tryz.func101,Tryz.ntmps101
  go_wp2_with (first
   | ((with_reducible refine ax (N:=1) rfl ?_);(try(refine bP (by rfl) ?_;dsimp only));refine cm 1 #[.int .i64 a0_0,.bool a0_1,.bool a0_2,.int .i64 a0_3,.string a0_4,.int .i64 a0_5,.slice A0_6 l0_6.length c0_6,.slice A0_7 l0_7.length c0_7] 62 (fun g hg w1 hbox hb=>?_);have BK:=a0_ hbox;replace HB:=a0_ (aa ay hb);clear hb hbox hg;obtain⟨_,_,_,_,_,_,_,_,_,_,_,_,_,_,_,_⟩:=bT BK.out)
   | ((with_reducible refine gt_ 102 rfl ?_);refine gs_ 5 Tryz.func102 #[.int .i64 a0_0,.int .i64 0,.int .i64 65535] ?_;(with_reducible refine(cj.c a0_0 0 65535 _ _ E1.out).mono ?_);rintro e w' ⟨rfl,⟨nd,rfl⟩⟩;refine⟨_,rfl,?_⟩)
   | ((with_reducible refine ax (N:=8) rfl ?_);(try(refine bP (by rfl) ?_;dsimp only));refine Kd.R_lit (Kd.int .i64) _ 3 ?hg (N:=8) ?hd (xs:=([0,1,3,5]:List Int)) (inner:=[.int .i64 0,.int .i64 1,.int .i64 3,.int .i64 5]) (ok:=fun _=>True) (okp:=fun _=>True) ?hr ?hp (fun _ hk=>hk) trivial (Below.refl _ _) (Nat.le_refl _) (by simp) ?_;(case hd=>rfl);(case hg=>rfl);(case hr=>first|(go_simp;done)|(go_simp;rfl));(case hp=>exact(br.one (show Kd.M (Kd.int .i64) _ _ _ 0 [.int .i64 0]from rfl) (br.one (show Kd.M (Kd.int .i64) _ _ _ 1 [.int .i64 1]from rfl) (br.one (show Kd.M (Kd.int .i64) _ _ _ 3 [.int .i64 3]from rfl) (br.one (show Kd.M (Kd.int .i64) _ _ _ 5 [.int .i64 5]from rfl) (br.none _ _))))));intro v w2 ho hb hg_ hn_;clear hg_ hn_;(first|rw[← NY.out]at ho|(simp only[Int.reduceToNat]at ho;rw[← NY.out]at ho));have HO:=a0_ (Kd.R_lower ho (aj aD));replace BK:=a0_ (bq BK hb);replace HB:=a0_ (aa aD hb);clear hb ho;obtain⟨_,_,_,_,_,_,_,_,_,_,_,_,_,_,_,_⟩:=bT BK.out;obtain⟨Ao,co,eo⟩:=Kd.R_slice HO.out;subst eo)
   | (go_at_call 156;(with_reducible refine(cI.c k _ _ y a0_3 _ _ ?side1 ?side2 E2.out).mono ?_);(case side1=>exact kD_ (Kd.R_reads' HO.out).2.2);(case side2=>exact(Kd.R_reads' HO.out).2.1);rintro e w' ⟨rfl,⟨nd,rfl⟩⟩)
   | (go_at_call 127;(with_reducible refine(dv.c k a0_4 _ _ E3.out).mono ?_);rintro e w3 ⟨rfl,hb⟩;replace BK:=a0_ (bq BK hb);replace HB:=a0_ (aa aD hb);clear hb;obtain⟨_,_,_,_,_,_,_,_,_,_,_,_,_,_,_,_⟩:=bT BK.out)
   | (go_at_call 157;(with_reducible refine(fu.c k a0_5 _ _ E4.out).mono ?_);rintro e w4 ⟨rfl,hb⟩;replace BK:=a0_ (bq BK hb);replace HB:=a0_ (aa aD hb);clear hb;obtain⟨_,_,_,_,_,_,_,_,_,_,_,_,_,_,_,_⟩:=bT BK.out)
   | (go_at_call 158;(with_reducible refine(bS.c k A0_6 c0_6 l0_6 _ _ ?side1 ?side2 E5.out).mono ?_);(case side1=>exact kC_ R6.out HB.out);(case side2=>exact C6.out);rintro e w5 ⟨rfl,hb⟩;replace BK:=a0_ (bq BK hb);replace HB:=a0_ (aa aD hb);clear hb;obtain⟨_,_,_,_,_,_,_,_,_,_,_,_,_,_,_,_⟩:=bT BK.out)
   | (go_at_call 158;(with_reducible refine(bS.c k A0_7 c0_7 l0_7 _ _ ?side1 ?side2 E6.out).mono ?_);(case side1=>exact kC_ R7.out HB.out);(case side2=>exact C7.out);rintro e w6 ⟨rfl,hb⟩;replace BK:=a0_ (bq BK hb);replace HB:=a0_ (aa aD hb);clear hb;obtain⟨_,_,_,_,_,_,_,_,_,_,_,_,_,_,_,_⟩:=bT BK.out))
  go_ret
  exact⟨rr_,aD⟩)
end Go.Proofs.YtiegkjimpclmaaaGreatDoor.P
namespace Go.Proofs.YtiegkjimpclmaaaGreatDoor.Pure
open Go.Proofs.YtiegkjimpclmaaaGreatDoor.P
theorem qO(a b:ByteArray): gw a b=if a.data.toList<b.data.toList then -1 else if b.data.toList<a.data.toList then 1 else 0:=by
 unfold gw;rw[Go.Proofs.bytesLess_eq,Go.Proofs.bytesLess_eq,Lib.toList_data,Lib.toList_data];simp only[decide_eq_true_eq]
theorem qH(a b:List UInt8): a<b∨a=b∨b<a:=by
 by_cases h1:a<b
 ·exact .inl h1
 · by_cases h2 : b < a
   ·exact .inr (.inr h2)
   ·exact .inr (.inl (List.le_antisymm h2 h1))
theorem kU(a b:ByteArray): gw a b=0↔a=b:=by
 rw[qO]
 rcases qH a.data.toList b.data.toList with h|h|h
 · rw [if_pos h]
   refine⟨fun h0=>by omega,fun e=>?_⟩;rw[e]at h;exact absurd h (List.lt_irrefl _)
 · have hn : ¬ a.data.toList < b.data.toList := by rw [h]; exact List.lt_irrefl _
   have hn2:¬ b.data.toList<a.data.toList:=by rw[h];exact List.lt_irrefl _
   rw[if_neg hn,if_neg hn2];exact⟨fun _=>fK h,fun _=>rfl⟩
 · have hn : ¬ a.data.toList < b.data.toList := fun h' => absurd (List.lt_trans h h') (List.lt_irrefl _)
   rw[if_neg hn,if_pos h];refine⟨fun h0=>by omega,fun e=>?_⟩;rw[e]at h;exact absurd h (List.lt_irrefl _)
theorem la: ∀ x y:List ByteArray,ij x y=0↔x=y
 | [],[]=>⟨fun _=>rfl,fun _=>rfl⟩
 | [],_::_=>⟨fun h=>by simp[ij]at h,fun h=>by cases h⟩
 | _::_,[]=>⟨fun h=>by simp[ij]at h,fun h=>by cases h⟩
 | a::x,b::y=>by
  unfold ij
  by_cases h:gw a b=0
  · rw [if_pos h, la x y, (kU a b).1 h]
    exact⟨fun e=>by rw[e],fun e=>by injection e⟩
  · rw [if_neg h]
    refine⟨fun e=>absurd e h,fun e=>?_⟩
    injection e with e1 e2
    exact absurd ((kU a b).2 e1) h
def unO: List (List UInt8)→List UInt8
 | []=>[]
 | [p]=>p
 | p::q::r=>p++46::unO (q::r)
theorem iS: ∀ s:List UInt8,unO (bC 46 s)=s
 | []=>rfl
 | x::xs=>by
  have ih:=iS xs;obtain⟨p,ps,hp⟩:=List.exists_cons_of_ne_nil (eL 46 xs);unfold bC;rw[hp]at ih ⊢
  by_cases h:x=46
  · rw [if_pos h]
    show[]++46::unO (p::ps)=_;rw[ih,h];rfl
  · rw [if_neg h]
    cases ps with
    | nil=>show x::p=_;rw[show p=xs from ih]
    | cons q r=>
     show(x::p)++46::unO (q::r)=_;have ih2:p++46::unO (q::r)=xs:=ih;rw[List.cons_append,ih2]
theorem mH{a b:List UInt8}(h:bG a=bG b): a=b:=by
 unfold bG at h
 by_cases ha:a=[]
 · rw [if_pos ha] at h
   by_cases hb:b=[]
   ·rw[ha,hb]
   · rw [if_neg hb] at h
     exact absurd h.symm (eL 46 b)
 · rw [if_neg ha] at h
   by_cases hb:b=[]
   · rw [if_pos hb] at h
     exact absurd h (eL 46 a)
   · rw [if_neg hb] at h
     rw[← iS a,← iS b,h]
theorem pW(a b:List UInt8): lE a b=0↔a=b:=by
 unfold lE;rw[la];refine⟨fun h=>?_,fun h=>by rw[h]⟩;have h1:=List.reverse_inj.1 h
 refine mH ?_
 have h2:=congrArg (List.map fun x:ByteArray=>x.data.toList) h1;rw[List.map_map,List.map_map]at h2
 have:((fun x:ByteArray=>x.data.toList) ∘ mkB)=id:=by funext z;exact cn z
 rwa [this,List.map_id,List.map_id]at h2
theorem ex{a:Int}{p q:Nat}(h:Cur a p)(k:p≤q): Cur a q:=⟨h.1,by have:=h.2;omega⟩
theorem eT{l:List Int}(hl:fg l){at_ sd:Int}{n:Nat}(hc:Cur at_ n)(hn:n<4611686018427387000)(zs:List Int)(hz:0<zs.length):
 ∃ x at2 sd2,bL.f l at_ sd zs=some (x,at2,sd2)∧x∈zs∧Cur at2 (n+2):=by
 unfold bL.f;obtain⟨i,at2,sd2,e,hi,hc2⟩:=dY hl hc (by omega) (sd:=sd) (zs.length:Int);rw[e];simp only[Option.bind_some]
 have hlt:i<(zs.length:Int):=by omega
 rw[if_pos hi.1,if_pos hlt];refine⟨_,_,_,rfl,?_,hc2⟩
 have h2:i.toNat<zs.length:=by omega
 rw[rd,List.getD_eq_getElem?_getD,List.getElem?_eq_getElem h2];exact List.getElem_mem h2
theorem jh{l:List Int}(hl:fg l){at_ sd:Int}{n:Nat}(hc:Cur at_ n)(hn:n<4611686018427387000):
 ∃ x at2 sd2,cT.f l at_ sd=some (x,at2,sd2)∧x.size≤15∧Cur at2 (n+2):=by
 unfold cT.f;obtain⟨x,at2,sd2,e,hx,hc2⟩:=fS hl hc (by omega) (sd:=sd) ([(⟨#[97,46,101,120,46,99,111,109]⟩:ByteArray),(⟨#[98,46,101,120,46,99,111,109]⟩:ByteArray),(⟨#[110,115,46,101,120,46,99,111,109]⟩:ByteArray),(⟨#[119,119,119,46,99,111,109]⟩:ByteArray),(⟨#[120,49,46,115,117,98,46,101,120,46,99,111,109]⟩:ByteArray)]:List ByteArray) (by decide);exact⟨x,at2,sd2,by rw[e];rfl,fW (by decide) hx,hc2⟩
theorem gG{l:List Int}(hl:fg l){at_ sd:Int}{n:Nat}(hc:Cur at_ n)(hn:n<4611686018427387900)(m:Int):
 ∃ x at2 sd2,bU.f l at_ sd m=some (x,at2,sd2)∧Cur at2 (n+2):=by
 obtain⟨i,at2,sd2,e,hi,hc2⟩:=dY hl hc hn (sd:=sd) m;exact⟨_,at2,sd2,by unfold bU.f;rw[e];rfl,hc2⟩
theorem jU{l:List Int}(hl:fg l){at_ sd:Int}{n:Nat}(hc:Cur at_ n)(hn:n<4611686018427380000)(a:ByteArray)(b c:Int)(d:ByteArray)(hd:d.size≤40):
 ∃ b' c' d' at2 sd2,Ev (fun k=>bf.j1 k l at_ sd a b c d) (a,b',c',d',at2,sd2)∧d'.size≤40∧Cur at2 (n+4):=by
 obtain⟨i,at2,sd2,e,hi,hc2⟩:=dY hl hc (by omega) (sd:=sd) 40
 by_cases h0:i=0
 · obtain ⟨x, at3, sd3, e3, hx, hc3⟩ := eT hl hc2 (by omega) (sd := sd2) ([(-1), 0, 100000, 100001] : List Int) (by decide)
   refine⟨b,x,d,at3,sd3,Ev.step (f:=fun _=>some (a,b,x,d,at3,sd3)) (fun k=>?_) (Ev.now _),hd,hc3⟩;show(aM.f l at_ sd 40).bind _=_;rw[e];simp only[Option.bind_some];rw[if_pos h0,e3];rfl
 · by_cases h1 : i = 1
   · obtain ⟨x, at3, sd3, e3, hx, hc3⟩ := fS hl hc2 (by omega) (sd := sd2) ([(⟨#[49, 46, 50, 46, 51]⟩ : ByteArray), (⟨#[50, 53, 54, 46, 49, 46, 49, 46, 49]⟩ : ByteArray), (⟨#[42]⟩ : ByteArray), (⟨#[52, 50, 57, 52, 57, 54, 55, 50, 57, 53]⟩ : ByteArray), (⟨#[52, 50, 57, 52, 57, 54, 55, 50, 57, 54]⟩ : ByteArray), (⟨#[55, 48, 48, 48, 48, 32, 97, 46, 98]⟩ : ByteArray), (⟨#[48, 49, 46, 50, 46, 51, 46, 52]⟩ : ByteArray), (⟨#[1]⟩ : ByteArray)] : List ByteArray) (by decide)
     refine⟨b,c,x,at3,sd3,Ev.step (f:=fun _=>some (a,b,c,x,at3,sd3)) (fun k=>?_) (Ev.now _),fW (by decide) hx,hc3⟩;show(aM.f l at_ sd 40).bind _=_;rw[e];simp only[Option.bind_some];rw[if_neg h0,if_pos h1,e3];rfl
   · by_cases h2 : i = 2
     · obtain ⟨x, at3, sd3, e3, hx, hc3⟩ := dY hl hc2 (by omega) (sd := sd2) 20
       refine⟨x,c,d,at3,sd3,Ev.step (f:=fun _=>some (a,x,c,d,at3,sd3)) (fun k=>?_) (Ev.now _),hd,hc3⟩;show(aM.f l at_ sd 40).bind _=_;rw[e];simp only[Option.bind_some];rw[if_neg h0,if_neg h1,if_pos h2,e3];rfl
     · refine ⟨b, c, d, at2, sd2, Ev.step (f := fun _ => some (a, b, c, d, at2, sd2)) (fun k => ?_) (Ev.now _), hd, ex hc2 (by omega)⟩
       show(aM.f l at_ sd 40).bind _=_;rw[e];simp only[Option.bind_some];rw[if_neg h0,if_neg h1,if_neg h2]
theorem qe{l:List Int}(hl:fg l){at_ sd:Int}{n:Nat}(hc:Cur at_ n)(hn:n<4611686018427370000)(g1:Int)(g0:Bool)(a:ByteArray)(b c:Int)(d:ByteArray):
 ∃ b' c' d' at2 sd2,Ev (fun k=>bf.j0 k g1 g0 l at_ sd a b c d) (a,b',c',d',at2,sd2)∧d'.size≤40∧Cur at2 (n+8):=by
 by_cases h0:g0=true
 · obtain ⟨x, at2, sd2, e, hx, hc2⟩ := jh hl hc (by omega) (sd := sd)
   obtain⟨b',c',d',at3,sd3,e3,h3,hc3⟩:=jU hl hc2 (by omega) (sd:=sd2) a b c x (by omega);refine⟨b',c',d',at3,sd3,Ev.step (fun k=>?_) e3,h3,ex hc3 (by omega)⟩;show(if g0=true then _ else _)=_;rw[if_pos h0,e,Option.bind_some]
 · by_cases h6 : g1 = 6
   · obtain ⟨i, at2, sd2, e, hi, hc2⟩ := dY hl hc (by omega) (sd := sd) 20
     have hs:=lY i hi.1 (by omega);obtain⟨b',c',d',at3,sd3,e3,h3,hc3⟩:=jU hl hc2 (by omega) (sd:=sd2) a b c (itB i) (by omega);refine⟨b',c',d',at3,sd3,Ev.step (f:=fun k=>(bX.f k i).bind fun t=>bf.j1 k l at2 sd2 a b c t) (fun k=>?_) (Ev.bind (pK i hi.1 (by omega)) e3),h3,ex hc3 (by omega)⟩;show(if g0=true then _ else _)=_;rw[if_neg h0,if_pos h6,e,Option.bind_some]
   · by_cases h15 : g1 = 15
     · obtain ⟨i, at2, sd2, e, hi, hc2⟩ := dY hl hc (by omega) (sd := sd) 30
       have hs:=lY i hi.1 (by omega);obtain⟨x,at3,sd3,e3,hx,hc3⟩:=jh hl hc2 (by omega) (sd:=sd2)
       have hz:(itB i++(⟨#[32]⟩:ByteArray)).size=(itB i).size+1:=by rw[ByteArray.size_append];rfl
       obtain⟨b',c',d',at4,sd4,e4,h4,hc4⟩:=jU hl hc3 (by omega) (sd:=sd3) a b c ((itB i++(⟨#[32]⟩:ByteArray))++x) (by rw[ByteArray.size_append,hz];omega);refine⟨b',c',d',at4,sd4,Ev.step (f:=fun k=>(bX.f k i).bind fun t=>(if t.size+1≤9223372036854775807 then((cT.f l at2 sd2).bind fun bt=>(if(t++(⟨#[32]⟩:ByteArray)).size+bt.1.size≤9223372036854775807 then(bf.j1 k l bt.2.1 bt.2.2 a b c ((t++(⟨#[32]⟩:ByteArray))++bt.1))else(none)))else(none))) (fun k=>?_) (Ev.bind (pK i hi.1 (by omega)) ?_),h4,ex hc4 (by omega)⟩
       · show (if g0 = true then _ else _) = _
         rw[if_neg h0,if_neg h6,if_pos h15,e,Option.bind_some]
       · simp only [if_pos (show (itB i).size + 1 ≤ 9223372036854775807 by omega), e3, Option.bind_some, if_pos (show (itB i ++ (⟨#[32]⟩ : ByteArray)).size + x.size ≤ 9223372036854775807 by rw [hz]; omega)]
         exact e4
     · obtain ⟨x, at2, sd2, e, hx, hc2⟩ := fS hl hc (by omega) (sd := sd) ([(⟨#[104, 101, 108, 108, 111]⟩ : ByteArray), (⟨#[]⟩ : ByteArray), (⟨#[118, 61, 49, 32, 120]⟩ : ByteArray)] : List ByteArray) (by decide)
       have hsz:x.size≤40:=fW (by decide) hx;obtain⟨b',c',d',at3,sd3,e3,h3,hc3⟩:=jU hl hc2 (by omega) (sd:=sd2) a b c x hsz;refine⟨b',c',d',at3,sd3,Ev.step (fun k=>?_) e3,h3,ex hc3 (by omega)⟩;show(if g0=true then _ else _)=_;rw[if_neg h0,if_neg h6,if_neg h15,e,Option.bind_some]
theorem pj{l:List Int}(hl:fg l){at_ sd:Int}{n:Nat}(hc:Cur at_ n)(hn:n<4611686018427360000):
 ∃ a b c d at2 sd2,Ev (fun k=>bf.f k l at_ sd) (a,b,c,d,at2,sd2)∧a.size≤60∧d.size≤40∧Cur at2 (n+40):=by
 obtain⟨a,at2,sd2,e,ha,hc2⟩:=lv hl hc (by omega) (sd:=sd);obtain⟨b,at3,sd3,e3,hb,hc3⟩:=eT hl hc2 (by omega) (sd:=sd2) ([1,1,1,2,5,15,16,6]:List Int) (by decide);obtain⟨c,at4,sd4,e4,hc',hc4⟩:=eT hl hc3 (by omega) (sd:=sd3) ([5,60,60,300]:List Int) (by decide)
 by_cases h1:b=1
 · obtain ⟨x, at5, sd5, e5, hx, hc5⟩ := fS hl hc4 (by omega) (sd := sd4) ([(⟨#[49, 46, 50, 46, 51, 46, 52]⟩ : ByteArray), (⟨#[49, 46, 50, 46, 51, 46, 53]⟩ : ByteArray), (⟨#[49, 48, 46, 48, 46, 48, 46, 49]⟩ : ByteArray), (⟨#[57, 46, 57, 46, 57, 46, 57]⟩ : ByteArray)] : List ByteArray) (by decide)
   have hsz:x.size≤40:=fW (by decide) hx;obtain⟨b',c',d',at6,sd6,e6,h6,hc6⟩:=jU hl hc5 (by omega) (sd:=sd5) a b c x hsz;refine⟨a,b',c',d',at6,sd6,Ev.congr (fun k=>rfl) (Ev.bind e ?_),ha,h6,ex hc6 (by omega)⟩;simp only[e3,Option.bind_some,e4,if_pos h1,e5];exact e6
 · by_cases h2 : b = 2
   · obtain ⟨b', c', d', at6, sd6, e6, h6, hc6⟩ := qe hl hc4 (by omega) (sd := sd4) b (b == 2) a b c (⟨#[]⟩ : ByteArray)
     refine⟨a,b',c',d',at6,sd6,Ev.congr (fun k=>rfl) (Ev.bind e ?_),ha,h6,ex hc6 (by omega)⟩;simp only[e3,Option.bind_some,e4,if_neg h1,if_pos h2];exact e6
   · obtain ⟨b', c', d', at6, sd6, e6, h6, hc6⟩ := qe hl hc4 (by omega) (sd := sd4) b (b == 5) a b c (⟨#[]⟩ : ByteArray)
     refine⟨a,b',c',d',at6,sd6,Ev.congr (fun k=>rfl) (Ev.bind e ?_),ha,h6,ex hc6 (by omega)⟩;simp only[e3,Option.bind_some,e4,if_neg h1,if_neg h2];exact e6
theorem gp(s:ByteArray)(hs:s.size<1099511627776): ∀ (m i a:Nat) (acc:List ByteArray),i+m=s.size→a≤i→(∀ x∈(s.data.toList.drop a).take (i-a),x≠32)→acc.length≤a →
 aQ.l0 (m+1) s 32 acc (a:Int) (i:Int)=some (acc++(bC 32 (s.data.toList.drop a)).map mkB)
 | 0,i,a,acc,him,hai,hx,hacc=>by
  unfold aQ.l0;rw[if_neg (by omega),if_pos (by omega),if_pos (by omega),if_pos (by omega)];rw[List.take_of_length_le (by rw[List.length_drop,← aU];omega)]at hx;rw[el 32 _ hx,Int.toNat_natCast,iE];rfl
 | m+1,i,a,acc,him,hai,hx,hacc=>by
  have hi:i<s.data.toList.length:=by rw[← aU];omega
  unfold aQ.l0;rw[if_pos (by omega),if_pos (by omega),eS s i hi,d_ (by omega)]
  have hd:s.data.toList.drop a=(s.data.toList.drop a).take (i-a)++s.data.toList[i]::s.data.toList.drop (i+1):=by
   conv=>lhs;rw[← List.take_append_drop (i-a) (s.data.toList.drop a)]
   congr 1
   rw[List.drop_drop,show a+(i-a)=i by omega,List.drop_eq_getElem_cons hi]
  by_cases h:s.data.toList[i]=32
  · rw [if_pos (by rw [h]; rfl), if_pos (by omega), if_pos (by omega), if_pos (by omega), if_pos (by omega), Int.toNat_natCast, Int.toNat_natCast, fE]
    rw[gp s hs m (i+1) (i+1) _ (by omega) (by omega) (by simp) (by simp;omega)]
    conv=>rhs;rw[hd,h,dM 32 _ _ hx]
    simp
  · rw [if_neg (by intro e; apply h; apply UInt8.toNat_inj.1; simpa using Int.ofNat.inj e)]
    refine gp s hs m (i+1) a acc (by omega) (by omega) ?_ hacc
    intro x hm;rw[show i+1-a=(i-a)+1 by omega,List.take_add_one]at hm
    rcases List.mem_append.1 hm with hm|hm
    ·exact hx x hm
    · rw [List.getElem?_drop, show a + (i - a) = i by omega, List.getElem?_eq_getElem hi] at hm
      obtain rfl:x=s.data.toList[i]:=by simpa using hm
      exact h
theorem na(s:ByteArray)(hs:s.size<1099511627776): Ev (fun k=>aQ.f k s 32) ((bC 32 s.data.toList).map mkB):=by
 refine Ev.of (fun k=>aQ.m _ _ _) (k:=s.size+1) ?_
 unfold aQ.f;have:=gp s hs s.size 0 0 [] (by omega) (by omega) (by simp) (by simp)
 simpa using this
theorem jW{s:List UInt8}(h:cO s=true): (bG s).length≤8∧∀ x∈bG s,bH x=true:=by
 unfold cO at h;simp only[Bool.and_eq_true,decide_eq_true_eq,List.all_eq_true]at h;exact h.2
theorem kJ(n:Int): Ev (fun k=>aW.f k n 1) (strOfNums [n%256]):=by
 refine Ev.of (fun k=>aW.m _ _ _) (k:=2) ?_
 show aW.f 2 n 1=_;simp[aW.f,aW.l0,wrap64,shr,IntKind.bits]
theorem mt(n:Int): Ev (fun k=>am.f k n 1) (strOfNums [n%256]):=by
 refine Ev.of (fun k=>am.m _ _ _) (k:=2) ?_
 show am.f 2 n 1=_;simp[am.f,am.l0,wrap64]
theorem qV(n:Int): Ev (fun k=>aW.f k n 2) (strOfNums [n / 256%256,n%256]):=by
 refine Ev.of (fun k=>aW.m _ _ _) (k:=3) ?_
 show aW.f 3 n 2=_;simp[aW.f,aW.l0,wrap64,shr,IntKind.bits]
theorem rp(n:Int): Ev (fun k=>am.f k n 2) (strOfNums [n / 256%256,n%256]):=by
 refine Ev.of (fun k=>am.m _ _ _) (k:=3) ?_
 show am.f 3 n 2=_;simp[am.f,am.l0,wrap64]
theorem sl(n:Int): Ev (fun k=>aW.f k n 4) (strOfNums [n / 16777216%256,n / 65536%256,n / 256%256,n%256]):=by
 refine Ev.of (fun k=>aW.m _ _ _) (k:=5) ?_
 show aW.f 5 n 4=_;simp[aW.f,aW.l0,wrap64,shr,IntKind.bits]
theorem sN(n:Int): Ev (fun k=>am.f k n 4) (strOfNums [n / 16777216%256,n / 65536%256,n / 256%256,n%256]):=by
 refine Ev.of (fun k=>am.m _ _ _) (k:=5) ?_
 show am.f 5 n 4=_;simp[am.f,am.l0,wrap64,Int.ediv_ediv_of_nonneg]
def fI(l:List UInt8): Bool:=decide (l≠[])&&(cO l && !l.contains 42)
theorem mc(s:ByteArray): dC.f s (⟨#[42]⟩:ByteArray)=some (s.data.toList.contains 42):=by
 unfold dC.f eG.f aV.f;rw[if_pos (show(⟨#[42]⟩:ByteArray).size=1 from rfl)];simp only[Option.bind_some];rw[show List.headD (⟨#[42]⟩:ByteArray).data.toList 0=42 from rfl]
 congr 1
 rcases eK 42 s.data.toList with⟨h1,h2⟩|⟨p,r,h1,h2,h3⟩
 · rw [h1]
   have:s.data.toList.contains 42=false:=by
    rw[Bool.eq_false_iff];intro h;rw[List.contains_iff_mem]at h;exact h2 42 h rfl
   rw[this];rfl
 · rw [h3]
   have:s.data.toList.contains 42=true:=by
    rw[List.contains_iff_mem,h1];simp
   rw[this];exact decide_eq_true (by omega)
theorem fb(s:ByteArray): dn.f s=some (fI s.data.toList):=by
 unfold dn.f cg.f fI;rw[Lib.toList_data,mc]
 by_cases h:s.data.toList=[]
 ·rw[if_pos h,decide_eq_false (by simp[h])];rfl
 · rw [if_neg h, decide_eq_true h, Option.bind_some, Bool.true_and]
   cases cO s.data.toList with
   | true=>rfl
   | false=>rfl
theorem iU: ∀ (l:List UInt8) (b:UInt8),b≠46→(b∈l↔∃ p∈bC 46 l,b∈p)
 | [],b,hb=>by simp[bC]
 | x::xs,b,hb=>by
  have ih:=iU xs b hb;obtain⟨p,ps,hp⟩:=List.exists_cons_of_ne_nil (eL 46 xs);unfold bC;rw[hp]at ih ⊢
  by_cases h:x=46
  · rw [if_pos h, List.mem_cons, ih]
    constructor
    · rintro (e | ⟨q, hq, hb2⟩)
      ·exact absurd (e.trans h) hb
      ·exact⟨q,List.mem_cons_of_mem _ hq,hb2⟩
    · rintro ⟨q, hq, hb2⟩
      rcases List.mem_cons.1 hq with rfl|hq
      ·cases hb2
      ·exact .inr ⟨q,hq,hb2⟩
  · rw [if_neg h, List.mem_cons, ih]
    constructor
    · rintro (e | ⟨q, hq, hb2⟩)
      ·exact⟨x::p,List.mem_cons_self,by rw[e];exact List.mem_cons_self⟩
      · rcases List.mem_cons.1 hq with rfl | hq
        ·exact⟨x::q,List.mem_cons_self,List.mem_cons_of_mem _ hb2⟩
        ·exact⟨q,List.mem_cons_of_mem _ hq,hb2⟩
    · rintro ⟨q, hq, hb2⟩
      rcases List.mem_cons.1 hq with rfl|hq
      · rcases List.mem_cons.1 hb2 with e | hb2
        ·exact .inl e
        ·exact .inr ⟨p,List.mem_cons_self,hb2⟩
      ·exact .inr ⟨q,List.mem_cons_of_mem _ hq,hb2⟩
theorem mL{s:List UInt8}(h:cO s=true): s.contains 42=true↔∃ p∈bG s,p=[42]:=by
 rw[List.contains_iff_mem];unfold bG
 by_cases h0:s=[]
 ·rw[if_pos h0,h0];simp
 · rw [if_neg h0, iU s 42 (by decide)]
   have hg:=(jW h).2;unfold bG at hg;rw[if_neg h0]at hg
   constructor
   · rintro ⟨p, hp, h42⟩
     refine⟨p,hp,?_⟩;have:=hg p hp;unfold bH at this;rw[Bool.or_eq_true,beq_iff_eq,Bool.and_eq_true,List.all_eq_true]at this
     rcases this with e|e
     ·exact e
     ·exact absurd (e.2 42 h42) (by decide)
   · rintro ⟨p, hp, rfl⟩
     exact⟨_,hp,List.mem_cons_self⟩
theorem lX(l:List ByteArray)(i:Nat)(h:i<l.length): bn ByteArray.empty l (i:Int)=l[i]:=by
 unfold bn;rw[Int.toNat_natCast,List.getD_eq_getElem?_getD,List.getElem?_eq_getElem h];rfl
theorem jo(s:ByteArray)(l:List ByteArray)(hl:l.length<1099511627776): ∀ (m i:Nat) (ok:Bool),i+m=l.length →
 Ev (fun k=>a_.l0 k s ok l (l.length:Int) (i:Int)) (ok&&((l.drop i).all (fun x=>decide (x.data.toList≠[42]))&&decide (s.data.toList≠[])))
 | 0,i,ok,him=>by
  rw[List.drop_of_length_le (by omega),List.all_nil,Bool.true_and];refine Ev.step (f:=fun _=>some (ok&&decide (s.data.toList≠[]))) (fun k=>?_) (Ev.now _);show a_.l0 (k+1) s ok l (l.length:Int) (i:Int)=_
  conv=>lhs;unfold a_.l0
  rw[if_neg (by omega),Lib.toList_data]
  cases ok with
  | true=>
   rw[if_pos rfl,Bool.true_and]
   congr 1
   by_cases h:s.data.toList=[]
   ·rw[h];simp
   ·rw[decide_eq_true h,bne_iff_ne.mpr h]
  | false=>rfl
 | m+1,i,ok,him=>by
  have hi:i<l.length:=by omega
  have ih:=jo s l hl m (i+1) (ok&&decide (l[i].data.toList≠[42])) (by omega)
  have e:(ok&&decide (l[i].data.toList≠[42])&&((l.drop (i+1)).all (fun x=>decide (x.data.toList≠[42]))&&decide (s.data.toList≠[])))=(ok&&((l.drop i).all (fun x=>decide (x.data.toList≠[42]))&&decide (s.data.toList≠[]))):=by
   rw[List.drop_eq_getElem_cons hi];rw[List.all_cons];cases ok
   ·rfl
   ·rw[Bool.true_and,Bool.true_and,Bool.and_assoc]
  rw[e]at ih;refine Ev.step (fun k=>?_) ih;show a_.l0 (k+1) s ok l (l.length:Int) (i:Int)=_
  conv=>lhs;unfold a_.l0
  rw[if_pos (by omega),if_pos (by omega),if_pos (by omega),lX l i hi,d_ (by omega),Lib.toList_data]
  cases ok with
  | true=>
   rw[if_pos rfl,Bool.true_and]
   congr 1
   by_cases h:l[i].data.toList=[42]
   ·rw[h];simp
   ·rw[decide_eq_true h,bne_iff_ne.mpr h]
  | false=>rfl
theorem Ev.unique{α:Type}{g:Nat→Option α}{r r':α}(h:Ev g r)(h':Ev g r'): r=r':=by
 obtain⟨K,h⟩:=h;obtain⟨K',h'⟩:=h';have h1:=h (max K K') (by omega);rw[h' (max K K') (by omega)]at h1;exact(Option.some.inj h1).symm
theorem lS(s:ByteArray)(hs:s.size≤1048576)(r:List ByteArray×Bool)(e:Ev (fun k=>aw.f k s) r): r.1.length<1099511627776:=by
 by_cases h:s.data.toList=[]
 · have h2 : Ev (fun k => aw.f k s) ([], true) := Ev.congr (fun k => by unfold aw.f; rw [if_pos (by rw [Lib.toList_data]; exact h)]) (Ev.now _)
   rw[Ev.unique e h2];simp
 · have hlen : ((bC 46 s.data.toList).map mkB).length ≤ s.size + 1 := by rw [List.length_map, aU]; exact eU _ _
   have h2:Ev (fun k=>aw.f k s) (ie s ((bC 46 s.data.toList).map mkB) 0):=by
    refine Ev.congr (f:=fun k=>(aQ.f k s 46).bind fun t=>aw.l0 k s t t (t.length:Int) 0) (fun k=>?_) (Ev.bind (ks s (by omega)) ?_)
    · show aw.f k s = _
      unfold aw.f;rw[if_neg (by rw[Lib.toList_data];exact h)]
    · refine gF s _ ?_ (by omega) _ 0 (Nat.zero_add _)
      intro p hp;obtain⟨q,hq,rfl⟩:=List.mem_map.1 hp;have:=eY 46 _ q hq;rw[cF];rw[← aU]at this;omega
   rw[Ev.unique e h2];unfold ie
   split
   · split
     ·show((bC 46 s.data.toList).map mkB).length<_;omega
     ·show((bC 46 s.data.toList).map mkB).length<_;omega
   ·simp
theorem gN(s:ByteArray)(hs:s.size≤1048576): Ev (fun k=>a_.f k s) (fI s.data.toList):=by
 obtain⟨r,e1,e2,e3⟩:=fH s (by omega)
 have hlen:r.1.length<1099511627776:=by
  by_cases h:r.2=true
  · rw [e3 h, List.length_map]
    have:=(jW (e2.symm.trans h)).1;omega
  ·exact lS s hs r e1
 refine Ev.congr (fun k=>rfl) (Ev.bind e1 ?_);have:=jo s r.1 hlen r.1.length 0 r.2 (by omega);rw[List.drop_zero]at this
 have et:(r.2&&(r.1.all (fun x=>decide (x.data.toList≠[42]))&&decide (s.data.toList≠[])))=fI s.data.toList:=by
  unfold fI;rw[e2]
  cases hg:cO s.data.toList with
  | false=>simp
  | true=>
   rw[e3 (e2.trans hg),Bool.true_and,Bool.true_and,Bool.and_comm]
   congr 1
   have h1:=mL hg;rw[Bool.eq_iff_iff,List.all_eq_true,Bool.not_eq_true',Bool.eq_false_iff]
   constructor
   · intro h2 h3
     obtain⟨p,hp,rfl⟩:=h1.1 h3;exact of_decide_eq_true (h2 (mkB [42]) (List.mem_map.2 ⟨_,hp,rfl⟩)) (cn _)
   · intro h2 x hx
     refine decide_eq_true fun h3=>?_
     obtain⟨p,hp,rfl⟩:=List.mem_map.1 hx;rw[cn]at h3;exact h2 (h1.2 ⟨p,hp,h3⟩)
 rw[et]at this;exact this
end Go.Proofs.YtiegkjimpclmaaaGreatDoor.Pure

namespace Go.Proofs.YtiegkjimpclmaaaGreatDoor.P
attribute [local go_sem] cG cD c_ cZ ci ch cE cH
def be.l0: Nat→ByteArray→List Int→Int→Option (List Int)
 | 0,_,_,_=>none
 | k+1,x0,x3,x4=>if x4<(x0.size:Int)then((ac.f k x0 x4).bind fun g0=>(if g0.2.2.2=true then(if x3.length+g0.2.1.length<17592186044416 then(be.l0 k x0 (x3++g0.2.1) g0.2.2.1)else(none))else(some x3)))else(some x3)
def be.f(k:Nat)(a0:ByteArray): Option (List Int):=be.l0 k a0 (([]:List Int)) 0
theorem be.mono_l: ∀ k,(∀ y0 y1 y2,LeO (be.l0 k y0 y1 y2) (be.l0 (k+1) y0 y1 y2))
 | 0=>fun _ _ _ r h=>by simp[be.l0]at h
 | k+1=>by
  have ih0:=be.mono_l k
  · intro y0 y1 y2
    unfold be.l0
    repeat' first|(with_reducible first|exact ih0 _ _ _|exact ac.m _ _ _|exact LeO.refl _|exact LeO.none _|refine LeO.ite ?_ ?_|refine LeO.bind ?_ (fun _=>?_))|exact LeO.none _|refine LeO.ite ?_ ?_|refine LeO.bind ?_ (fun _=>?_)
theorem be.m: ∀ a0 k,LeO (be.f k a0) (be.f (k+1) a0):=by
 intro a0 k;have ih0:=be.mono_l k;unfold be.f
 repeat' first|(with_reducible first|exact ih0 _ _ _|exact ac.m _ _ _|exact LeO.refl _|exact LeO.none _|refine LeO.ite ?_ ?_|refine LeO.bind ?_ (fun _=>?_))|exact LeO.none _|refine LeO.ite ?_ ?_|refine LeO.bind ?_ (fun _=>?_)
theorem be.c(k:Nat)(a0:ByteArray)(r:List Int)(w:World)(h:be.f k a0=some r):
 Calls Tryz.prog 240 #[.string a0] w fun e w'=> ∃ v0_:Value,e = .returned (v0_)∧Kd.R (Kd.int .i64) 3 w' w.heap.size (fun _=>True) v0_ r∧Below w.heap.size w w':=by
 have HB:=a0_ (Below.refl w.heap.size w);have H:=h;clear h;unfold be.f at H;obtain⟨g6,g1⟩:∃ y_:List Int,y_=(([]:List Int)):=⟨_,rfl⟩
 replace H:(be.l0 k a0 g6 0)=some r:=by first|(rw[g1];with_reducible exact H)|(have H2_:=(Option.bind_some _ _).symm.trans H;rw[g1];with_reducible exact H2_)|(have H2_:=(Option.bind_some _ _).symm.trans H;with_reducible exact H2_)|with_reducible exact H|(rw[g1];exact H)|exact H
 have g5:=a0_ g1;clear g1;have H':=a0_ H;clear H;go_enter Tryz.func240,Tryz.ntmps240;go_wp2_with (first|((with_reducible refine ax (N:=9) rfl ?_);refine Kd.R_lit (Kd.int .i64) _ 3 ?hg (N:=9) ?hd (xs:=([]:List Int)) (inner:=[]) (ok:=fun _=>True) (okp:=fun _=>True) ?hr ?hp (fun _ hk=>hk) trivial (Below.refl _ _) (Nat.le_refl _) (by simp) ?_;(case hd=>rfl);(case hg=>rfl);(case hr=>first|(go_simp;done)|(go_simp;rfl));(case hp=>exact(br.none _ _));intro j7 w2 ho3 hb hg_ hnew_;clear hg_ hnew_;(first|rw[← g5.out]at ho3|(simp only[Int.reduceToNat]at ho3;rw[← g5.out]at ho3));have g9:=a0_ (Kd.R_lower ho3 (aj ay));replace HB:=a0_ (aa ay hb);clear hb ho3));go_loopg [3,4] k (fun kq v3 v4 w'=> ∃ (x3_1:List Int) (x4_1:Int),v4 = .int .i64 x4_1∧ab (be.l0 kq a0 x3_1 x4_1=some r)∧ab (kq≤k)∧ab (Kd.R (Kd.int .i64) 3 w' w.heap.size (fun _=>True) v3 x3_1)∧ab (Below w.heap.size w w'))
 case atStart=>exact⟨(g6),(0),rs_,H',⟨Nat.le_refl _⟩,⟨kR_ g9.out⟩,⟨ay⟩⟩
 case round=>
  clear H';obtain⟨x3_1,x4_1,rfl,HA,HK1,HO_3,HB⟩:=hrel
  cases gk with
  | zero=>exact absurd HA.out (by simp[be.l0])
  | succ k1=>
   have H:=HA.out;clear HA;simp only[be.l0]at H
   by_cases c4:x4_1<(a0.size:Int)
   case neg=>
    rw[if_neg c4]at H;have c4b0:=decide_eq_false c4;clear c4;obtain rfl:=Option.some.inj H;go_wp2;go_ret;exact⟨_,rr_,kR_ HO_3.out,ay⟩
   rw[if_pos c4]at H;have c4b0:=decide_eq_true c4;clear c4;obtain⟨⟨g7,g3,g4,j2⟩,A5,H⟩:=ob_ H
   by_cases c6:j2=true
   case neg=>
    replace c6:=Bool.eq_false_iff.mpr c6;subst c6;rw[if_neg ff_]at H;obtain rfl:=Option.some.inj H;go_wp2_with (first|((with_reducible refine gt_ 125 rfl ?_);refine gs_ 17 Tryz.func125 #[.string a0,.int .i64 x4_1] ?_;(with_reducible refine(ac.c k1 a0 x4_1 g7 g3 g4 false _ A5.out).mono ?_);rintro e j9 ⟨j3,rfl,ho0,hb⟩;refine⟨_,rfl,?_⟩;have g0:=a0_ (Kd.R_lower (Kd.R_new' ho0 (Kd.R_lt (kR_ HO_3.out))) (aj ay));replace HO_3:=a0_ (Kd.R_elder' (kR_ HO_3.out) (Kd.R_base ho0) hb);replace HB:=a0_ (aa ay hb);clear hb;(try clear ho0)));go_ret;exact⟨_,rr_,by(with_reducible repeat(first|apply Kd.R_alloc|apply Kd.R_drewN|apply Kd.R_drew));exact Kd.R_mono HO_3.out (fun _ hk=>trivial),ay⟩
   subst c6;rw[if_pos rfl]at H
   by_cases c7:x3_1.length+g3.length<17592186044416
   case neg=>
    rw[if_neg c7]at H;exact absurd H (by simp)
   rw[if_pos c7]at H;have LMc7:=a0_ c7;clear c7;obtain⟨g8,g2⟩:∃ y_:List Int,y_=(x3_1++g3):=⟨_,rfl⟩
   replace H:(be.l0 k1 a0 g8 g4)=some r:=by first|(rw[g2];with_reducible exact H)|(have H2_:=(Option.bind_some _ _).symm.trans H;rw[g2];with_reducible exact H2_)|(have H2_:=(Option.bind_some _ _).symm.trans H;with_reducible exact H2_)|with_reducible exact H|(rw[g2];exact H)|exact H
   have j0:=a0_ g2;clear g2;have H':=a0_ H;clear H;go_wp2_with (first|((with_reducible refine gt_ 125 rfl ?_);refine gs_ 17 Tryz.func125 #[.string a0,.int .i64 x4_1] ?_;(with_reducible refine(ac.c k1 a0 x4_1 g7 g3 g4 true _ A5.out).mono ?_);rintro e w8 ⟨j3,rfl,ho0,hb⟩;refine⟨_,rfl,?_⟩;have g0:=a0_ (Kd.R_lower (Kd.R_new' ho0 (Kd.R_lt (kR_ HO_3.out))) (aj ay));replace HO_3:=a0_ (Kd.R_elder' (kR_ HO_3.out) (Kd.R_base ho0) hb);replace HB:=a0_ (aa ay hb);clear hb;(try clear ho0);obtain⟨j4,j5,j6⟩:=Kd.R_slice g0.out;subst j6)|((with_reducible refine bz (b:=.append) (xs:=#[.tmp 24,.tmp 25]) rfl ?_);at_builtin;refine Kd.R_append_rows (Kd.int .i64) (w0:=w) w.heap.size rfl (.tmp 24) (.tmp 25) 131 3 (.int .i64 0) 8 rfl Tryz.underlying131 nT rfl (by decide) (by omega) u3 x3_1 g3 _ _ _ (fun k_=>nw_ k_ j4 g3.length j5) (fun _=>False) rfl rfl ?aO ?aR (fun _ _ h=>h) (fun _ h=>h.elim) ?aF ?aB ?aS ?aL ?_;(case aR=>repeat(first|exact(Kd.R_reads' g0.out).2.2|(with_reducible refine Kd.C_alloc ?_ _)|(with_reducible refine Kd.C_drewN ?_ _)|(with_reducible refine Kd.C_drew ?_)));(case aB=>exact ay);(case aF=>exact(fun k_ hk=>Kd.fresh' (Kd.R_lt (kR_ g0.out)) k_ hk));(case aO=>exact(kR_ (Kd.R_mono HO_3.out (fun _ hk=>hk.2))));(case aS=>exact(aj ay));(case aL=>have:=LMc7.out;omega);intro j8 w9 ho hb hg hat;rw[← j0.out]at ho;replace g0:=a0_ (Kd.R_after (ok:=(fun _=>True)) (kR_ g0.out) hg hat);replace HB:=a0_ (hb);have j1:=a0_ (ho);clear HO_3;clear ho hb hg hat));go_roundg k1
   case measure=>have:=HK1.out;omega
   case rel=>exact⟨(g8),(g4),rs_,H',jl_ HK1,⟨kR_ (Kd.R_mono j1.out (fun _ hk=>trivial))⟩,⟨ay⟩⟩
def bQ.l0: Nat→ByteArray→List Int→Int→Option (List Int)
 | 0,_,_,_=>none
 | k+1,x0,x3,x4=>if x4<(x0.size:Int)then((ah.f k x0 x4).bind fun g0=>(if g0.2.2.2=true then(if x3.length+g0.2.2.1.length<17592186044416 then(bQ.l0 k x0 (x3++g0.2.2.1) g0.2.1)else(none))else(some x3)))else(some x3)
def bQ.f(k:Nat)(a0:ByteArray): Option (List Int):=bQ.l0 k a0 ([]:List Int) 0
theorem bQ.c(k:Nat)(a0:ByteArray)(r:List Int)(w:World)(h:bQ.f k a0=some r):
 Calls Tryz.prog 237 #[.string a0] w fun e w'=> ∃ v0_:Value,e = .returned (v0_)∧Kd.R (Kd.int .i64) 3 w' w.heap.size (fun _=>True) v0_ r∧Below w.heap.size w w':=by
 have HB:=a0_ (Below.refl w.heap.size w);have H:=h;clear h;unfold bQ.f at H;have H':=a0_ H;clear H;go_enter Tryz.func237,Tryz.ntmps237;go_wp2;go_loopg [3,4] k (fun kq v3 v4 w'=> ∃ (x3_1:List Int) (x4_1:Int),v4 = .int .i64 x4_1∧ab (bQ.l0 kq a0 x3_1 x4_1=some r)∧ab (kq≤k)∧ab (Kd.R (Kd.int .i64) 3 w' w.heap.size (fun _=>True) v3 x3_1)∧ab (Below w.heap.size w w'))
 case atStart=>exact⟨(([]:List Int)),(0),rs_,H',⟨Nat.le_refl _⟩,⟨by first|exact Kd.R_nil _ _ _ _ _|exact Kd.N_nil _ _ _ _ _|exact Kd.V_nil _ _ _ _ _|exact Kd.Q_nil _ _ _ _ _|exact Kd.S_nil _ _ _ _ _⟩,⟨ay⟩⟩
 case round=>
  clear H';obtain⟨x3_1,x4_1,rfl,HA,HK1,HO_3,HB⟩:=hrel
  cases gk with
  | zero=>exact absurd HA.out (by simp[bQ.l0])
  | succ k1=>
   have H:=HA.out;clear HA;simp only[bQ.l0]at H
   by_cases c2:x4_1<(a0.size:Int)
   case neg=>
    rw[if_neg c2]at H;have c2b0:=decide_eq_false c2;clear c2;obtain rfl:=Option.some.inj H;go_wp2;go_ret;exact⟨_,rr_,kR_ HO_3.out,ay⟩
   rw[if_pos c2]at H;have c2b0:=decide_eq_true c2;clear c2;obtain⟨⟨g4,g3,g2,g8⟩,A3,H⟩:=ob_ H
   by_cases c4:g8=true
   case neg=>
    replace c4:=Bool.eq_false_iff.mpr c4;subst c4;rw[if_neg ff_]at H;obtain rfl:=Option.some.inj H;go_wp2_with (first|((with_reducible refine gt_ 115 rfl ?_);refine gs_ 16 Tryz.func115 #[.string a0,.int .i64 x4_1] ?_;(with_reducible refine(ah.c k1 a0 x4_1 g4 g3 g2 false _ A3.out).mono ?_);rintro e w9 ⟨g9,rfl,ho0,hb⟩;refine⟨_,rfl,?_⟩;have g0:=a0_ (Kd.R_lower (Kd.R_new' ho0 (Kd.R_lt (kR_ HO_3.out))) (aj ay));replace HO_3:=a0_ (Kd.R_elder' (kR_ HO_3.out) (Kd.R_base ho0) hb);replace HB:=a0_ (aa ay hb);clear hb;(try clear ho0)));go_ret;exact⟨_,rr_,by(with_reducible repeat(first|apply Kd.R_alloc|apply Kd.R_drewN|apply Kd.R_drew));exact Kd.R_mono HO_3.out (fun _ hk=>trivial),ay⟩
   subst c4;rw[if_pos rfl]at H
   by_cases c5:x3_1.length+g2.length<17592186044416
   case neg=>
    rw[if_neg c5]at H;exact absurd H (by simp)
   rw[if_pos c5]at H;have LMc5:=a0_ c5;clear c5;obtain⟨g5,g1⟩:∃ y_:List Int,y_=(x3_1++g2):=⟨_,rfl⟩
   replace H:(bQ.l0 k1 a0 g5 g3)=some r:=by first|(rw[g1];with_reducible exact H)|(have H2_:=(Option.bind_some _ _).symm.trans H;rw[g1];with_reducible exact H2_)|(have H2_:=(Option.bind_some _ _).symm.trans H;with_reducible exact H2_)|with_reducible exact H|(rw[g1];exact H)|exact H
   have g6:=a0_ g1;clear g1;have H':=a0_ H;clear H;go_wp2_with (first|((with_reducible refine gt_ 115 rfl ?_);refine gs_ 16 Tryz.func115 #[.string a0,.int .i64 x4_1] ?_;(with_reducible refine(ah.c k1 a0 x4_1 g4 g3 g2 true _ A3.out).mono ?_);rintro e w6 ⟨g9,rfl,ho0,hb⟩;refine⟨_,rfl,?_⟩;have g0:=a0_ (Kd.R_lower (Kd.R_new' ho0 (Kd.R_lt (kR_ HO_3.out))) (aj ay));replace HO_3:=a0_ (Kd.R_elder' (kR_ HO_3.out) (Kd.R_base ho0) hb);replace HB:=a0_ (aa ay hb);clear hb;(try clear ho0);obtain⟨Ao8,co8,eo8⟩:=Kd.R_slice g0.out;subst eo8)|((with_reducible refine bz (b:=.append) (xs:=#[.tmp 23,.tmp 24]) rfl ?_);at_builtin;refine Kd.R_append_rows (Kd.int .i64) (w0:=w) w.heap.size rfl (.tmp 23) (.tmp 24) 131 3 (.int .i64 0) 8 rfl Tryz.underlying131 nT rfl (by decide) (by omega) u3 x3_1 g2 _ _ _ (fun k_=>nw_ k_ Ao8 g2.length co8) (fun _=>False) rfl rfl ?aO ?aR (fun _ _ h=>h) (fun _ h=>h.elim) ?aF ?aB ?aS ?aL ?_;(case aR=>repeat(first|exact(Kd.R_reads' g0.out).2.2|(with_reducible refine Kd.C_alloc ?_ _)|(with_reducible refine Kd.C_drewN ?_ _)|(with_reducible refine Kd.C_drew ?_)));(case aB=>exact ay);(case aF=>exact(fun k_ hk=>Kd.fresh' (Kd.R_lt (kR_ g0.out)) k_ hk));(case aO=>exact(kR_ (Kd.R_mono HO_3.out (fun _ hk=>hk.2))));(case aS=>exact(aj ay));(case aL=>have:=LMc5.out;omega);intro j0 w7 ho hb hg hat;rw[← g6.out]at ho;replace g0:=a0_ (Kd.R_after (ok:=(fun _=>True)) (kR_ g0.out) hg hat);replace HB:=a0_ (hb);have g7:=a0_ (ho);clear HO_3;clear ho hb hg hat));go_roundg k1
   case measure=>have:=HK1.out;omega
   case rel=>exact⟨(g5),(g3),rs_,H',jl_ HK1,⟨kR_ (Kd.R_mono g7.out (fun _ hk=>trivial))⟩,⟨ay⟩⟩
end Go.Proofs.YtiegkjimpclmaaaGreatDoor.P
