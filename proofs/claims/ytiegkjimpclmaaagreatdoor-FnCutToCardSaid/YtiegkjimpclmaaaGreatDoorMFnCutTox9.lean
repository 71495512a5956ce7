/- FnCutTo: part 10 of 17 of my texts for this claim, joined; the theorem stands in the last. Conditions: none beyond the statement's. -/
import Derived.Test.YtiegkjimpclmaaaGreatDoorMFnCutTox8
open Go.RowKit Go.Proofs.YtiegkjimpclmaaaGreatDoorW.PrintWords Go.Proofs.YtiegkjimpclmaaaGreatDoorW.PrintLast Go.Proofs.YtiegkjimpclmaaaGreatDoorW.PrintMore
set_option linter.unusedVariables false
set_option linter.unusedSimpArgs false
set_option maxHeartbeats 8000000
set_option maxRecDepth 100000
namespace Go.Proofs.YtiegkjimpclmaaaGreatDoor.P
attribute [local go_sem] cG cD c_ cZ ci ch cE cH
mutual
def aH.j0: Nat→List (S45)→Bool→List Int→Int→Int→Option ((List (S45))×Int×Int)
 | 0,_,_,_,_,_=>none
 | k+1,x5,g4,g1,g2,g3=>if g4=true then((aK.f k g1 g2 g3).bind fun g0=>(aH.j1 k g0.1 g1 g0.2.1 g0.2.2))else(aH.j1 k x5 g1 g2 g3)
def aH.j1: Nat→List (S45)→List Int→Int→Int→Option ((List (S45))×Int×Int)
 | 0,_,_,_,_=>none
 | k+1,x5,g3,g1,g2=>if(x5.length:Int)>12 then((bU.f g3 g1 g2 6).bind fun g0=>(if g0.1=true then(some (x5,g0.2.1,g0.2.2))else(if 12≤(x5.length:Int)then(some ((x5.take (12:Int).toNat),g0.2.1,g0.2.2))else(none))))else(some (x5,g1,g2))
end
def aH.f(k:Nat)(s0_0:List Int)(s0_1:Int)(s0_2:Int): Option ((List (S45))×Int×Int):=(aK.f k s0_0 s0_1 s0_2).bind fun g0=>((cP.f k g0.1).bind fun g3=>((aq.f k g3.1).bind fun g1=>(if g1.2=true then((bU.f s0_0 g0.2.1 g0.2.2 6).bind fun g2=>(aH.j0 k g1.1 g2.1 s0_0 g2.2.1 g2.2.2))else(aH.j0 k g1.1 true s0_0 g0.2.1 g0.2.2))))
theorem aH.c(k:Nat)(g:Nat)(s0_0:List Int)(s0_1:Int)(s0_2:Int)(r1:List (S45))(r2:Int)(r3:Int)(w0 w:World)(hI:ak w0 w g s0_0 s0_1 s0_2)(hB:Below w0.heap.size w0 w)(h:aH.f k s0_0 s0_1 s0_2=some (r1,r2,r3)):
 Calls Tryz.prog 168 #[.pointer (some ⟨g,0,none⟩)] w fun e w'=> ∃ v0_:Value,e = .returned (v0_)∧Kd.R k45 45 w' w.heap.size (fun _=>True) v0_ r1∧ak w0 w' g s0_0 r2 r3∧Below w0.heap.size w0 w'∧aJ w w' g none:=by
 have HI0:=a0_ hI;have HK:=a0_ (aJ.refl w g none);have HL:=a0_ hB.size;clear hI;have HW0:=a0_ hB.size;have HB:=a0_ hB;clear hB;have H:=h;clear h;unfold aH.f at H;obtain⟨⟨j5,g6,g7⟩,A2,H⟩:=ob_ H;obtain⟨⟨j6,b6⟩,A3,H⟩:=ob_ H;obtain⟨⟨g9,y1⟩,A4,H⟩:=ob_ H;have HC5:=a0_ H;clear H;go_enter Tryz.func168,Tryz.ntmps168;go_upto_region 3 with(first|((with_reducible refine gt_ 109 rfl ?_);refine gs_ 9 Tryz.func109 #[.pointer (some ⟨g,0,none⟩)] ?_;(with_reducible refine(aK.c k g s0_0 s0_1 s0_2 j5 g6 g7 w0 _ ?side1 ?side2 A2.out).mono ?_);(case side1=>exact bg);(case side2=>exact ca);rintro e w6 ⟨z3,rfl,ho0,hi,hb,hk⟩;refine⟨_,rfl,?_⟩;have g0:=a0_ (Kd.R_lower ho0 (cJ (w:=w) (g:=g) (row:=none) kq_));replace HK:=a0_ (kt_ HK hk (.inl rfl));replace HB:=a0_ (hb);replace HI0:=a0_ (hi);clear hb hk hi;(try clear ho0);obtain⟨Ao7,co7,eo7⟩:=Kd.R_slice g0.out;subst eo7)|((with_reducible refine gt_ 22 rfl ?_);refine gs_ 10 Tryz.func22 #[.slice Ao7 j5.length co7] ?_;(with_reducible refine(cP.c k _ _ j5 j6 b6 _ ?side1 ?side2 A3.out).mono ?_);(case side1=>exact kD_ (Kd.R_reads' g0.out).2.2);(case side2=>exact(Kd.R_reads' g0.out).2.1);rintro e w8 ⟨z4,rfl,ho0,hb⟩;refine⟨_,rfl,?_⟩;replace g0:=a0_ (Kd.R_below (kR_ g0.out) hb);have g5:=a0_ (Kd.S_lower ho0 (cJ (w:=w) (g:=g) (row:=none) kq_));replace HI0:=a0_ (ak.below bg hb);replace HK:=a0_ (kt_ HK (aJ.of_below hb g none) (.inl rfl));replace HB:=a0_ (aa ca hb);clear hb;(try clear ho0);obtain⟨Ao9,co9,eo9⟩:=Kd.S_slice g5.out;subst eo9)|((with_reducible refine gt_ 13 rfl ?_);refine gs_ 15 Tryz.func13 #[.slice Ao9 j6.length co9] ?_;(with_reducible refine(aq.c k _ _ j6 g9 y1 _ ?side1 ?side2 A4.out).mono ?_);(case side1=>repeat(first|exact(Kd.S_reads' g5.out).2.2|(with_reducible refine Kd.C_alloc ?_ _)|(with_reducible refine Kd.C_drewN ?_ _)|(with_reducible refine Kd.C_drew ?_)));(case side2=>exact(Kd.S_reads' g5.out).2.1);rintro e f2 ⟨b7,rfl,ho0,hb⟩;refine⟨_,rfl,?_⟩;replace g5:=a0_ (Kd.S_below (by(with_reducible repeat(first|apply Kd.S_alloc|apply Kd.S_drewN|apply Kd.S_drew));exact g5.out) hb);have g8:=a0_ (Kd.R_lower (Kd.R_new' ho0 (Kd.R_lt (kR_ g0.out))) (cJ (w:=w) (g:=g) (row:=none) kq_));replace g0:=a0_ (Kd.R_elder' (kR_ g0.out) (Kd.R_base ho0) hb);replace HI0:=a0_ (ak.below bg hb);replace HK:=a0_ (kt_ HK (aJ.of_below hb g none) (.inl rfl));replace HB:=a0_ (aa ca hb);clear hb;(try clear ho0)))
 (try simp only[Act.put,List.setIfInBounds_toArray,List.set_cons_zero,List.set_cons_succ])
 go_cut [23] (fun z0 wc=> ∃ (kq:Nat) (j2:Bool) (g3:Int) (g4:Int),z0 = .bool j2∧ab (aH.j0 kq g9 j2 s0_0 g3 g4=some (r1,r2,r3))∧ab (kq≤k)∧ab (Kd.R k45 45 wc w.heap.size (fun _=>True) b7 g9)∧ab (ak w0 wc g s0_0 g3 g4)∧ab (aJ w wc g none)∧ab (Below w0.heap.size w0 wc))
 case first=>
  have H:=HC5.out;clear HC5
  by_cases j7:y1=true
  case neg=>
   replace j7:=Bool.eq_false_iff.mpr j7;subst j7;rw[if_neg ff_]at H;have H':=a0_ H;clear H;go_wp2;go_meet
   case rel=>exact⟨_,(true),(g6),(g7),rs_,H',⟨by first|omega|exact Nat.le_refl _⟩,⟨kR_ (Kd.R_mono g8.out (fun _ hk=>trivial))⟩,⟨bg⟩,⟨kq_⟩,⟨ca⟩⟩
  subst j7;rw[if_pos rfl]at H;obtain⟨⟨y2,y3,y4⟩,z1,H⟩:=ob_ H;have H':=a0_ H;clear H;go_wp2_with (first|(go_at_call 99;(with_reducible refine(bU.c g s0_0 g6 g7 6 y2 y3 y4 w0 _ ?side1 ?side2 z1.out).mono ?_);(case side1=>exact bg);(case side2=>exact ca);rintro e f3 ⟨rfl,hi,hb,hk⟩;replace g0:=a0_ (Kd.R_mono (Kd.R_keep (ak.apart (show ak w0 _ g s0_0 g6 g7 from bg) (kR_ g0.out) (by decide)) hk (fun _ h=>h.2)) (fun _ h=>h.1));replace g5:=a0_ (Kd.S_mono (Kd.S_keep (ak.apartS (show ak w0 _ g s0_0 g6 g7 from bg) (by(with_reducible repeat(first|apply Kd.S_alloc|apply Kd.S_drewN|apply Kd.S_drew));exact g5.out) (by decide)) hk (fun _ h=>h.2)) (fun _ h=>h.1));replace g8:=a0_ (Kd.R_mono (Kd.R_keep (ak.apart (show ak w0 _ g s0_0 g6 g7 from bg) (kR_ g8.out) (by decide)) hk (fun _ h=>h.2)) (fun _ h=>h.1));replace HK:=a0_ (kt_ HK hk (.inl rfl));replace HB:=a0_ (hb);replace HI0:=a0_ (hi);clear hb hk hi));go_meet
  case rel=>exact⟨_,(y2),(y3),(y4),rs_,H',⟨by first|omega|exact Nat.le_refl _⟩,⟨kR_ (Kd.R_mono g8.out (fun _ hk=>trivial))⟩,⟨bg⟩,⟨kq_⟩,⟨ca⟩⟩
 case rest=>
  clear HC5;obtain⟨kq,j2,g3,g4,rfl,HA,HJ4,HO_5,HI0,HK,HB⟩:=hcut
  cases kq with
  | zero=>exact absurd HA.out (by simp[aH.j0])
  | succ kj4=>
   have H:=HA.out;clear HA;simp only[aH.j0]at H;have y0:=a0_ H;clear H;go_upto_if 23 with(fail);go_cut [5] (fun v5 wc=> ∃ (kq:Nat) (x5_13:List (S45)) (g1:Int) (g2:Int),ab (aH.j1 kq x5_13 s0_0 g1 g2=some (r1,r2,r3))∧ab (kq≤kj4)∧ab (Kd.R k45 45 wc w.heap.size (fun _=>True) v5 x5_13)∧ab (ak w0 wc g s0_0 g1 g2)∧ab (aJ w wc g none)∧ab (Below w0.heap.size w0 wc))
   case first=>
    have H:=y0.out;clear y0
    by_cases y5:j2=true
    case neg=>
     replace y5:=Bool.eq_false_iff.mpr y5;subst y5;rw[if_neg ff_]at H;have H':=a0_ H;clear H;go_wp2;go_meet
     case rel=>exact⟨_,(g9),(g3),(g4),H',jl_ HJ4,⟨kR_ HO_5.out⟩,⟨bg⟩,⟨kq_⟩,⟨ca⟩⟩
    subst y5;rw[if_pos rfl]at H;obtain⟨⟨y6,y7,y8⟩,z2,H⟩:=ob_ H;have H':=a0_ H;clear H;go_wp2_with (first|((with_reducible refine gt_ 109 rfl ?_);refine gs_ 25 Tryz.func109 #[.pointer (some ⟨g,0,none⟩)] ?_;(with_reducible refine(aK.c kj4 g s0_0 g3 g4 y6 y7 y8 w0 _ ?side1 ?side2 z2.out).mono ?_);(case side1=>exact bg);(case side2=>exact ca);rintro e f4 ⟨z5,rfl,ho0,hi,hb,hk⟩;refine⟨_,rfl,?_⟩;have b2:=a0_ (Kd.R_lower (Kd.R_new' ho0 (Kd.R_lt (kR_ HO_5.out))) (cJ (w:=w) (g:=g) (row:=none) kq_));replace HO_5:=a0_ (Kd.R_mono (Kd.R_told (Kd.R_oldK (ak.apart (show ak w0 _ g s0_0 g3 g4 from bg) (kR_ HO_5.out) (by decide)) hk) (Kd.R_base ho0)) (fun _ h_=>h_.1));replace HK:=a0_ (kt_ HK hk (.inl rfl));replace HB:=a0_ (hb);replace HI0:=a0_ (hi);clear hb hk hi;(try clear ho0)));go_meet
    case rel=>exact⟨_,(y6),(y7),(y8),H',jl_ HJ4,⟨kR_ (Kd.R_mono b2.out (fun _ hk=>trivial))⟩,⟨bg⟩,⟨kq_⟩,⟨ca⟩⟩
   case rest=>
    clear y0
    try clear c1
    try clear c2
    try clear p2
    try clear f5
    try clear j7
    try clear f6
    try clear p2
    obtain⟨kq,x5_13,g1,g2,HA,HJ13,HO_5,HI0,HK,HB⟩:=hcut
    cases kq with
    | zero=>exact absurd HA.out (by simp[aH.j1])
    | succ kj13=>
     have H:=HA.out;clear HA;simp only[aH.j1]at H
     by_cases j4:(x5_13.length:Int)>12
     case neg=>
      rw[if_neg j4]at H;have b8:=decide_eq_false j4;have b9:decide (12<x5_13.length)=false:=decide_eq_false (by omega);clear j4;simp only[Option.some.injEq,Prod.mk.injEq]at H;obtain⟨rfl,rfl,rfl⟩:=H;obtain⟨z8,z9,d5⟩:=Kd.R_slice HO_5.out;subst d5;go_wp2;go_ret;exact⟨_,rr_,kR_ HO_5.out,bg,ca,kq_⟩
     rw[if_pos j4]at H;have b8:=decide_eq_true j4;have b9:decide (12<x5_13.length)=true:=decide_eq_true (by omega);clear j4;obtain⟨⟨d0,y9,b0⟩,d4,H⟩:=ob_ H
     by_cases b1:d0=true
     case pos=>
      subst b1;rw[if_pos rfl]at H;simp only[Option.some.injEq,Prod.mk.injEq]at H;obtain⟨rfl,rfl,rfl⟩:=H;obtain⟨f0,f1,d6⟩:=Kd.R_slice HO_5.out;subst d6;go_wp2_with (first|(go_at_call 99;(with_reducible refine(bU.c g s0_0 g1 g2 6 true y9 b0 w0 _ ?side1 ?side2 d4.out).mono ?_);(case side1=>exact bg);(case side2=>exact ca);rintro e f7 ⟨rfl,hi,hb,hk⟩;replace HO_5:=a0_ (Kd.R_mono (Kd.R_keep (ak.apart (show ak w0 _ g s0_0 g1 g2 from bg) (kR_ HO_5.out) (by decide)) hk (fun _ h=>h.2)) (fun _ h=>h.1));replace HK:=a0_ (kt_ HK hk (.inl rfl));replace HB:=a0_ (hb);replace HI0:=a0_ (hi);clear hb hk hi));go_ret;exact⟨_,rr_,kR_ HO_5.out,bg,ca,kq_⟩
     replace b1:=Bool.eq_false_iff.mpr b1;subst b1;rw[if_neg ff_]at H
     by_cases j8:12≤(x5_13.length:Int)
     case neg=>
      rw[if_neg j8]at H;exact absurd H (by simp)
     rw[if_pos j8]at H;have z6:=eq_true j8;have z7:=decide_eq_true j8;clear j8;obtain⟨d3,j3⟩:∃ y_:List (S45),y_=(x5_13.take (12:Int).toNat):=⟨_,rfl⟩;rw[← j3]at H;have j9:=a0_ j3;clear j3;simp only[Option.some.injEq,Prod.mk.injEq]at H;obtain⟨rfl,rfl,rfl⟩:=H;obtain⟨d7,d8,d9⟩:=Kd.R_slice HO_5.out;subst d9;go_wp2_with (first|(go_at_call 99;(with_reducible refine(bU.c g s0_0 g1 g2 6 false y9 b0 w0 _ ?side1 ?side2 d4.out).mono ?_);(case side1=>exact bg);(case side2=>exact ca);rintro e f8 ⟨rfl,hi,hb,hk⟩;replace HO_5:=a0_ (Kd.R_mono (Kd.R_keep (ak.apart (show ak w0 _ g s0_0 g1 g2 from bg) (kR_ HO_5.out) (by decide)) hk (fun _ h=>h.2)) (fun _ h=>h.1));replace HK:=a0_ (kt_ HK hk (.inl rfl));replace HB:=a0_ (hb);replace HI0:=a0_ (hi);clear hb hk hi;have b3:(12:Int)≤((x5_13.length:Int):Int):=dr;obtain⟨i026,hi026,_,hsz26,_⟩:=info_parts dz;have hcut26:=gI (P:=Tryz.prog) 27 45 .i64 Tryz.underlying27 hi026 d7 x5_13.length d8 12 (by omega) b3 (Kd.R_reads' HO_5.out).2.1;have hr26:=Kd.R_take (m:=(12:Int).toNat) HO_5.out (by omega);have b4:d3.length=(12:Int).toNat:=(by rw[j9.out,List.length_take];omega);rw[← j9.out]at hr26;rw[← b4]at hr26 hcut26;clear b4 hi026 hsz26 HO_5;have b5:=a0_ hr26;clear hr26;replace b3:=eq_true b3));go_ret;exact⟨_,rr_,kR_ b5.out,bg,ca,kq_⟩
end Go.Proofs.YtiegkjimpclmaaaGreatDoor.P
namespace Go.Proofs.YtiegkjimpclmaaaGreatDoor.P
def sa(x:S45): Value:=.agg #[.string x.f0,.int .i64 x.f1,.int .i64 x.f2,.string x.f3]
def rm(g:Nat)(cb:Array Value)(p:S45→Bool)(xs:List (S45))(w:World): Prop:=
 ∀ (j:Nat) (x:S45),xs[j]? = some x→(∀ (i:Nat) (y:S45),i<j→xs[i]? = some y→p y=false)→∀ W,Below w.heap.size w W→Calls Tryz.prog g (#[sa x]++cb) W fun e W'=>e = .returned (.bool (p x))∧Below W.heap.size W W'
theorem pd(A:Option Addr)(c:Nat)(xs:List (S45))(g:Nat)(cb:Array Value)(p:S45→Bool)(w:World)(hr:Kd.C k45 w A xs.length xs)
 (eg:∀ args w,(callFunc g args).run Tryz.prog w = .ok (.enter g args) w) (hp:rm g cb p xs w) :
 Calls Tryz.prog 180 #[.slice A xs.length c,.func (.func g) #[] cb] w fun e w'=>e = .returned (.int .i64 (dS p xs 0))∧Below w.heap.size w w':=by
 have hbig:xs.length≤9223372036854775807:=hr.2.1;go_enter Tryz.func180,Tryz.ntmps180;go_wp2;go_loopg [5,8] xs.length (fun gg _ s8 wr=> ∃ kk:Nat,kk≤xs.length∧xs.length-kk≤gg∧s8 = .int .i64 kk∧ab (Below w.heap.size w wr)∧ab (∀ j y,j<kk→xs[j]? = some y→p y=false))
 case atStart=>exact⟨0,Nat.zero_le _,by omega,rfl,⟨Below.refl _ w⟩,⟨fun j y hj=>absurd hj (Nat.not_lt_zero _)⟩⟩
 case round=>
  obtain⟨kk,hkk,hg,rfl,BW,AA⟩:=hrel
  by_cases hlt:kk<xs.length
  · have hltz : (kk : Int) < (xs.length : Int) := by omega
    obtain⟨ad,e0,hx0,hx1,hx2,hx3⟩:=dN hr (kk:Int) (by omega) hltz;cases e0;have l0:=(BW.out.cell (World.block_lt_of_cell? _ _ hx0)).trans hx0;have l1:=(BW.out.cell (World.block_lt_of_cell? _ _ hx1)).trans hx1;have l2:=(BW.out.cell (World.block_lt_of_cell? _ _ hx2)).trans hx2;have l3:=(BW.out.cell (World.block_lt_of_cell? _ _ hx3)).trans hx3;clear hx0 hx1 hx2 hx3;simp only[Int.toNat_natCast]at l0 l1 l2 l3
    have hmem:xs[kk]? = some (ae xs kk):=by
     rw[List.getElem?_eq_getElem hlt];simp[ae,List.getElem?_eq_getElem hlt]
    have hcall:=hp kk (ae xs kk) hmem AA.out wr BW.out;clear hp;generalize hy:ae xs kk=y at l0 l1 l2 l3 hcall hmem;have B:=ab.mk hmem;clear hmem hy
    have hkn:((kk:Int)).toNat=kk:=by omega
    unfold sa at hcall
    cases hq:p y with
    | true=>
     rw[hq]at hcall;go_wp2_with (go_at_fn g;refine hcall.mono ?_;rintro e w' ⟨rfl,hb'⟩);go_ret;refine⟨?_,bj BW.out BW.out.size hb'⟩;rw[gK p xs 0 kk y B.out hq AA.out];simp
    | false=>
     rw[hq]at hcall;go_wp2_with (go_at_fn g;refine hcall.mono ?_;rintro e w' ⟨rfl,hb'⟩);go_roundg (xs.length-(kk+1))
     case measure=>omega
     case rel=>
      refine⟨kk+1,by omega,by omega,by go_num,⟨bj BW.out BW.out.size hb'⟩,⟨fun j z hj hz=>?_⟩⟩
      by_cases e:j=kk
      · subst e
        rw[B.out]at hz;cases hz;exact hq
      ·exact AA.out j z (by omega) hz
  · have hltz : ¬ (kk : Int) < (xs.length : Int) := by omega
    have hm:dS p xs 0 = -1:=gf p xs 0 (fun y hy=>by obtain⟨j,hj,e⟩:=List.mem_iff_getElem.1 hy;exact AA.out j y (by omega) (by rw[List.getElem?_eq_getElem hj,e]));have HM:=ab.mk hm;clear hm;go_wp2;go_ret;exact⟨by rw[HM.out];rfl,BW.out⟩
theorem lz(A:Option Addr)(c:Nat)(xs:List (S45))(g:Nat)(cb:Array Value)(p:S45→Bool)(w:World)(hr:Kd.C k45 w A xs.length xs)
 (eg:∀ args w,(callFunc g args).run Tryz.prog w = .ok (.enter g args) w) (hp:rm g cb p xs w) :
 Calls Tryz.prog 135 #[.slice A xs.length c,.func (.func g) #[] cb] w fun e w'=>e = .returned (.bool (xs.any p))∧Below w.heap.size w w':=by
 rw[← jE p xs 0 (by omega)];go_enter Tryz.func135,Tryz.ntmps135;go_wp2_with (go_at_call 180;refine(pd A c xs g cb p _ hr eg hp).mono ?_;rintro e w' ⟨rfl,hb'⟩);go_ret;exact⟨rfl,hb'⟩
def bJ.f(k:Nat): List (S45)→Option Bool
 | []=>some true
 | x::xs=>(bW.f k x.f0 x.f1 x.f2 x.f3).bind fun g=>(if g=true then bJ.f k xs else some false)
def mf(k:Nat)(x:S45): Bool:=!((bW.f k x.f0 x.f1 x.f2 x.f3).getD false)
theorem qj(k:Nat): ∀ (xs:List (S45)) (r:Bool),bJ.f k xs=some r→∀ (j:Nat) (x:S45),xs[j]? = some x→(∀ (i:Nat) (y:S45),i<j→xs[i]? = some y→mf k y=false)→bW.f k x.f0 x.f1 x.f2 x.f3=some (!mf k x)
 | [],r,h,j,x,hj,hb=>by simp at hj
 | z::xs,r,h,j,x,hj,hb=>by
  unfold bJ.f at h;obtain⟨g,hg,h⟩:=Option.bind_eq_some_iff.mp h
  cases j with
  | zero=>
   obtain rfl:z=x:=by simpa using hj
   unfold mf;rw[hg,Option.getD_some,Bool.not_not]
  | succ j=>
   have h0:=hb 0 z (by omega) (by simp);unfold mf at h0;rw[hg,Option.getD_some]at h0
   have hgt:g=true:=by cases g with
    | true=>rfl
    | false=>cases h0
   rw[if_pos hgt]at h
   exact qj k xs r h j x (by simpa using hj) fun i y hi hy=>hb (i+1) y (by omega) (by simpa using hy)
theorem nN(k:Nat): ∀ (xs:List (S45)) (r:Bool),bJ.f k xs=some r→xs.any (mf k) = !r
 | [],r,h=>by
  obtain rfl:=Option.some.inj h;rfl
 | z::xs,r,h=>by
  unfold bJ.f at h;obtain⟨g,hg,h⟩:=Option.bind_eq_some_iff.mp h;rw[List.any_cons];unfold mf;rw[hg,Option.getD_some]
  cases g with
  | true=>
   rw[if_pos rfl]at h;exact nN k xs r h
  | false=>
   rw[if_neg (by decide)]at h;obtain rfl:=Option.some.inj h;rfl
set_option maxHeartbeats 4000000 in
theorem bJ.c(k:Nat)(A0:Option Addr)(c0:Nat)(l0:List (S45))(r:Bool)(w:World)(hr0:Kd.C k45 w A0 l0.length l0)(hc0:l0.length≤c0)(h:bJ.f k l0=some r)
 (hv_:Vars w:=by first|assumption|(refine Vars.below (ab.out (by assumption)) ?_;repeat(first|(with_reducible first|exact Below.refl _ _|exact ab.out (by assumption)|apply bF|apply bv|apply bp)|exact ab.out (by assumption)))) :
 Calls Tryz.prog 74 #[.slice A0 l0.length c0] w fun e w'=>e = .returned (.bool r)∧Below w.heap.size w w':=by
 have eg:∀ args w,(callFunc 136 args).run Tryz.prog w = .ok (.enter 136 args) w:=enters_of Tryz.func136 (by kernel_rfl) rfl
 have cc:=lz A0 c0 l0 136 #[] (mf k) w hr0 eg (fun j x hj hb W hW=>
  ek.c k x.f0 x.f1 x.f2 x.f3 (mf k x) W (by unfold ek.f;rw[qj k l0 r h j x hj hb,Option.bind_some,Bool.not_not]) (Vars.below hv_ hW))
 rw[nN k l0 r h]at cc;clear h hv_;go_enter Tryz.func74,Tryz.ntmps74;go_wp2_with (go_at_call 135;refine cc.mono ?_;rintro e w1 ⟨rfl,hb⟩);go_ret;exact⟨by simp,hb⟩
end Go.Proofs.YtiegkjimpclmaaaGreatDoor.P
namespace Go.Proofs.YtiegkjimpclmaaaGreatDoor.Pure
open Go.Proofs.YtiegkjimpclmaaaGreatDoor.P
set_option linter.unusedSectionVars false
theorem rn(x:List UInt8)(i:Nat)(h:i<x.length): bt (mkB x) (i:Int)=((x[i]).toNat:Int):=by
 rw[eS _ i (by rw[cn];exact h)]
 have:∀ (l:List UInt8) (hl:l=x) (h1:i<l.length),l[i]=x[i]:=by rintro l rfl h1;rfl
 rw[this _ (cn x)]
def eX: ByteArray×List Int×Int×Bool:=((⟨#[]⟩:ByteArray),([]:List Int),0,false)
def fd: ByteArray×Int×List Int×Bool:=((⟨#[]⟩:ByteArray),0,([]:List Int),false)
def ba(s:ByteArray)(a:Nat): Nat:=(bt s (a:Int)).toNat
theorem dV(s:ByteArray)(a:Nat): bt s (a:Int)=(ba s a:Int):=by
 have:=mo s (a:Int);unfold ba;omega
theorem ey(s:ByteArray)(a:Nat): ba s a≤255:=by
 have:=mo s (a:Int);unfold ba;omega
theorem wN(n:Nat)(h:n<4611686018427387904): wrap64 (n:Int)=(n:Int):=by unfold wrap64;omega
def dL(e:Int)(x:Nat): Int:=if e<0 then(x:Int)else e
def plc(e:Int)(l:List Int)(a:Nat): List Int:=if e<0 then l ++ [(a:Int)]else l
def eb(s:ByteArray)(a:Nat): Nat:=(ba s a-192)*256+ba s (a+1)
section
variable (s:ByteArray) (hs:s.size≤2000)
include hs
theorem iz(k a:Nat)(L:List ByteArray)(p:List Int)(le e:Int)(h:s.size≤a∨8<L.length): ac.l0 (k+2) s (a:Int) L p le e=some eX:=by
 have hj:ac.l0 (k+2) s (a:Int) L p le e=ac.j1 (k+1) s (a:Int) L p le e false:=by
  conv=>lhs;unfold ac.l0
  by_cases h1:(a:Int)<(s.size:Int)
  ·rw[if_pos h1,decide_eq_false (by omega)]
  ·rw[if_neg h1]
 rw[hj];unfold ac.j1;rw[if_neg (by simp)];rfl
theorem iD(k a:Nat)(L:List ByteArray)(p:List Int)(le e:Int)(h1:a<s.size)(h2:L.length≤8): ac.l0 (k+2) s (a:Int) L p le e=ac.j1 (k+1) s (a:Int) L p le e true:=by
 conv=>lhs;unfold ac.l0
 rw[if_pos (by omega),decide_eq_true (by omega)]
theorem iO(k a:Nat)(L:List ByteArray)(p:List Int)(le e:Int)(h1:a<s.size)(h2:L.length≤8)(hv:ba s a=0):
 ac.l0 (k+2) s (a:Int) L p le e=some ((gi L).1,p,dL e (a+1),(gi L).2):=by
 rw[iD s hs k a L p le e h1 h2];unfold ac.j1 dL eI.f;rw[if_pos rfl,if_pos (by omega),if_pos (by omega),dV,wN _ (by have:=ey s a;omega),hv,if_pos (by rfl),d_ (by omega)]
 by_cases he:e<0
 ·rw[if_pos he,if_pos he];rfl
 ·rw[if_neg he,if_neg he];rfl
theorem fB(k a:Nat)(L:List ByteArray)(p:List Int)(le e:Int)(h1:a<s.size)(h2:L.length≤8)(hv:192≤ba s a)(h3:s.size≤a+1):
 ac.l0 (k+2) s (a:Int) L p le e=some eX:=by
 rw[iD s hs k a L p le e h1 h2];unfold ac.j1;rw[if_pos rfl,if_pos (by omega),if_pos (by omega),dV,wN _ (by have:=ey s a;omega),if_neg (by omega),if_pos (by omega),d_ (by omega),if_pos (by omega)];rfl
theorem fh(k a:Nat)(L:List ByteArray)(p:List Int)(le e:Int)(h1:a<s.size)(h2:L.length≤8)(hv:192≤ba s a)(h3:a+1<s.size):
 ac.l0 (k+2) s (a:Int) L p le e=if((eb s a:Nat):Int)≥le then some eX else ac.l0 k s ((eb s a:Nat):Int) L p ((eb s a:Nat):Int) (dL e (a+2)):=by
 rw[iD s hs k a L p le e h1 h2];have b1:=ey s a;have b2:=ey s (a+1)
 have hw2:wrap64 ((a:Int)+2)=((a+2:Nat):Int):=by unfold wrap64;omega
 have hp:wrap64 ((wrap64 ((Int.tmod (ba s a:Int) 64)*256))+(ba s (a+1):Int))=((eb s a:Nat):Int):=by
  unfold eb;rw[Int.tmod_eq_emod_of_nonneg (by omega)];unfold wrap64;omega
 conv=>lhs;unfold ac.j1
 rw[if_pos rfl,if_pos (by omega),if_pos (by omega),dV,wN _ (by omega),if_neg (by omega),if_pos (by omega),d_ (by omega),if_neg (by omega),dV,wN (ba s (a+1)) (by omega),hp,hw2];unfold dL
 by_cases he:e<0
 ·rw[if_pos he,if_pos he,if_pos (by omega),if_pos (by omega)];rfl
 ·rw[if_neg he,if_neg he,if_pos (by omega),if_pos (by omega)];rfl
theorem fF(k a:Nat)(L:List ByteArray)(p:List Int)(le e:Int)(h1:a<s.size)(h2:L.length≤8)(hv:0<ba s a)(hv2:ba s a<192)(h3:64≤ba s a∨s.size<a+1+ba s a):
 ac.l0 (k+3) s (a:Int) L p le e=some eX:=by
 rw[iD s hs (k+1) a L p le e h1 h2];have b1:=ey s a
 have hw2:wrap64 (((a+1:Nat):Int)+(ba s a:Int))=((a+1+ba s a:Nat):Int):=by unfold wrap64;omega
 have hj:ac.j1 (k+2) s (a:Int) L p le e true=ac.j2 (k+1) s (a:Int) L p le e (ba s a:Int) true:=by
  conv=>lhs;unfold ac.j1
  rw[if_pos rfl,if_pos (by omega),if_pos (by omega),dV,wN _ (by omega),if_neg (by omega),if_neg (by omega)]
  by_cases h64:(ba s a:Int)≥64
  ·rw[if_pos h64]
  ·rw[if_neg h64,d_ (by omega),hw2,decide_eq_true (by omega)]
 rw[hj];unfold ac.j2;rw[if_pos rfl];rfl
theorem gH(k a:Nat)(L:List ByteArray)(p:List Int)(le e:Int)(h1:a<s.size)(h2:L.length≤8)(hp:p.length<17592186044416)(hv:0<ba s a)(hv2:ba s a<64)(h3:a+1+ba s a≤s.size):
 ac.l0 (k+3) s (a:Int) L p le e=ac.l0 k s ((a+1+ba s a:Nat):Int) (L ++ [mkB (((s.data.toList.drop (a+1)).take (ba s a)).map eq)]) (plc e p a) le e:=by
 rw[iD s hs (k+1) a L p le e h1 h2]
 have hw2:wrap64 (((a+1:Nat):Int)+(ba s a:Int))=((a+1+ba s a:Nat):Int):=by unfold wrap64;omega
 have hw3:wrap64 ((a:Int)+(wrap64 (1+(ba s a:Int))))=((a+1+ba s a:Nat):Int):=by unfold wrap64;omega
 have hj:ac.j1 (k+2) s (a:Int) L p le e true=ac.j2 (k+1) s (a:Int) L p le e (ba s a:Int) false:=by
  conv=>lhs;unfold ac.j1
  rw[if_pos rfl,if_pos (by omega),if_pos (by omega),dV,wN _ (by omega),if_neg (by omega),if_neg (by omega),if_neg (by omega),d_ (by omega),hw2,decide_eq_false (by omega)]
 rw[hj]
 have hsm:em.f (s.extract (a+1) (a+1+ba s a))=some (mkB (((s.data.toList.drop (a+1)).take (ba s a)).map eq)):=by
  unfold em.f;rw[if_pos (by rw[fE,cF,List.length_take];omega),fE,cn,show a+1+ba s a-(a+1)=ba s a by omega]
 conv=>lhs;unfold ac.j2
 unfold plc;rw[if_neg (by simp),d_ (by omega),hw2,hw3,Int.toNat_natCast,Int.toNat_natCast,hsm];simp only[Option.bind_some]
 by_cases he:e<0
 ·rw[if_pos he,if_pos he,if_pos hp,if_pos (by omega),if_pos (by omega),if_pos (by omega),if_pos (by omega)]
 ·rw[if_neg he,if_neg he,if_pos (by omega),if_pos (by omega),if_pos (by omega),if_pos (by omega)]
theorem mq(k a:Nat)(L:List ByteArray)(p:List Int)(le e:Int)(h:s.size≤a∨8<L.length): ah.l0 (k+1) s (a:Int) L p le e=some fd:=by
 conv=>lhs;unfold ah.l0
 by_cases h1:(L.length:Int)≤8
 ·rw[if_pos h1,if_pos (by omega)];rfl
 ·rw[if_neg h1];rfl
theorem iJ(k a:Nat)(L:List ByteArray)(p:List Int)(le e:Int)(h1:a<s.size)(h2:L.length≤8)(hv:192≤ba s a)(h3:s.size≤a+1):
 ah.l0 (k+1) s (a:Int) L p le e=some fd:=by
 conv=>lhs;unfold ah.l0
 rw[if_pos (by omega),if_neg (by omega),if_pos (by omega),if_pos (by omega),dV,wN _ (by have:=ey s a;omega),if_pos (by omega),d_ (by omega),if_pos (by omega)];rfl
theorem iH(k a:Nat)(L:List ByteArray)(p:List Int)(le e:Int)(h1:a<s.size)(h2:L.length≤8)(hv:192≤ba s a)(h3:a+1<s.size):
 ah.l0 (k+1) s (a:Int) L p le e=if((eb s a:Nat):Int)≥le then some fd else ah.l0 k s ((eb s a:Nat):Int) L p ((eb s a:Nat):Int) (dL e (a+2)):=by
 have b1:=ey s a;have b2:=ey s (a+1)
 have hw2:wrap64 ((a:Int)+2)=((a+2:Nat):Int):=by unfold wrap64;omega
 have hp:wrap64 ((wrap64 ((wrap64 ((ba s a:Int)-192))*256))+(ba s (a+1):Int))=((eb s a:Nat):Int):=by
  unfold eb;unfold wrap64;omega
 conv=>lhs;unfold ah.l0
 rw[if_pos (by omega),if_neg (by omega),if_pos (by omega),if_pos (by omega),dV,wN _ (by omega),if_pos (by omega),d_ (by omega),if_neg (by omega),dV,wN (ba s (a+1)) (by omega),hp,hw2];unfold dL
 by_cases he:e<0
 ·rw[if_pos he,if_pos he,if_pos (by omega),if_pos (by omega)];rfl
 ·rw[if_neg he,if_neg he,if_pos (by omega),if_pos (by omega)];rfl
theorem fD(k a:Nat)(L:List ByteArray)(p:List Int)(le e:Int)(h1:a<s.size)(h2:L.length≤8)(hv:0<ba s a)(hv2:ba s a<192)(h3:20<ba s a∨s.size<a+1+ba s a):
 ah.l0 (k+2) s (a:Int) L p le e=some fd:=by
 have b1:=ey s a
 have hw2:wrap64 (((a+1:Nat):Int)+(ba s a:Int))=((a+1+ba s a:Nat):Int):=by unfold wrap64;omega
 have hj:ah.l0 (k+2) s (a:Int) L p le e=ah.j1 (k+1) s (a:Int) L p le e (ba s a:Int) true:=by
  conv=>lhs;unfold ah.l0
  rw[if_pos (by omega),if_neg (by omega),if_pos (by omega),if_pos (by omega),dV,wN _ (by omega),if_neg (by omega),if_neg (by omega)]
  by_cases h20:(ba s a:Int)>20
  ·rw[if_pos h20]
  ·rw[if_neg h20,d_ (by omega),hw2,decide_eq_true (by omega)]
 rw[hj];unfold ah.j1;rw[if_pos rfl];rfl
def ew(s:ByteArray)(a:Nat): List UInt8:=(s.data.toList.drop (a+1)).take (ba s a)
omit hs in
theorem ja(a:Nat)(L:List ByteArray)(p:List Int)(le e:Int)(x:List UInt8)(hx:x.length≤1000)(i:Nat)(hi:i<x.length)(k:Nat):
 ah.l1 (k+1) s (a:Int) L p le e (x.length:Int) (mkB x) (i:Int)=if x[i]=46 then some fd else ah.l1 k s (a:Int) L p le e (x.length:Int) (mkB x) ((i+1:Nat):Int):=by
 conv=>lhs;unfold ah.l1
 rw[if_pos (by omega),if_pos (by omega),if_pos (by rw[cF];omega),rn x i hi,d_ (by omega)];generalize x[i]=c
 by_cases h:c=46
 ·rw[if_pos h,if_pos (by rw[h];rfl)];rfl
 ·rw[if_neg h,if_neg (by intro e;apply h;apply UInt8.toNat_inj.1;simpa using Int.ofNat.inj e)]
omit hs in
theorem kY(a:Nat)(L:List ByteArray)(p:List Int)(le e:Int)(x:List UInt8)(hx:x.length≤1000)(hL:L.length≤8): ∀ (m i:Nat),i+m=x.length→(∀ y∈x.drop i,y≠46) →
 ∀ r,Ev (fun k=>ah.l0 k s (wrap64 ((a:Int)+(wrap64 (1+(x.length:Int))))) (L ++ [mkB x]) p le e) r→Ev (fun k=>ah.l1 k s (a:Int) L p le e (x.length:Int) (mkB x) (i:Int)) r
 | 0,i,him,hd,r,hr=>by
  refine Ev.step (fun k=>?_) hr;show ah.l1 (k+1) s (a:Int) L p le e (x.length:Int) (mkB x) (i:Int)=_
  conv=>lhs;unfold ah.l1
  rw[if_neg (by omega),if_pos (by omega)]
 | m+1,i,him,hd,r,hr=>by
  rw[List.drop_eq_getElem_cons (by omega)]at hd;exact Ev.step (fun k=>by rw[ja s a L p le e x hx i (by omega),if_neg (hd _ List.mem_cons_self)]) (kY a L p le e x hx hL m (i+1) (by omega) (fun y hy=>hd y (List.mem_cons_of_mem _ hy)) r hr)
omit hs in
theorem lq(a:Nat)(L:List ByteArray)(p:List Int)(le e:Int)(x:List UInt8)(hx:x.length≤1000)(hL:L.length≤8): ∀ (m i:Nat),i+m=x.length→(∃ y∈x.drop i,y=46) →
 Ev (fun k=>ah.l1 k s (a:Int) L p le e (x.length:Int) (mkB x) (i:Int)) fd
 | 0,i,him,⟨y,hy,_⟩=>by
  rw[List.drop_of_length_le (by omega)]at hy;cases hy
 | m+1,i,him,hd=>by
  by_cases h:x[i]'(by omega)=46
  ·exact Ev.step (f:=fun _=>some fd) (fun k=>by rw[ja s a L p le e x hx i (by omega),if_pos h]) (Ev.now _)
  · rw [List.drop_eq_getElem_cons (by omega)] at hd
    obtain⟨y,hy,e1⟩:=hd
    rcases List.mem_cons.1 hy with rfl|hy
    ·exact absurd e1 h
    ·exact Ev.step (fun k=>by rw[ja s a L p le e x hx i (by omega),if_neg h]) (lq a L p le e x hx hL m (i+1) (by omega) ⟨y,hy,e1⟩)
theorem mz(a:Nat)(L:List ByteArray)(p:List Int)(le e:Int)(h1:a<s.size)(h2:L.length≤8)(hp:p.length<17592186044416)(hv:0<ba s a)(hv2:ba s a≤20)(h3:a+1+ba s a≤s.size):
 Ev (fun k=>ah.l0 k s (a:Int) L p le e) fd∧(∃ y∈ew s a,y=46) ∨
 ((∀ y∈ew s a,y≠46)∧∀ r,Ev (fun k=>ah.l0 k s ((a+1+ba s a:Nat):Int) (L ++ [mkB (ew s a)]) (plc e p a) le e) r→Ev (fun k=>ah.l0 k s (a:Int) L p le e) r):=by
 have hw2:wrap64 (((a+1:Nat):Int)+(ba s a:Int))=((a+1+ba s a:Nat):Int):=by unfold wrap64;omega
 have hw3:wrap64 ((a:Int)+(wrap64 (1+(ba s a:Int))))=((a+1+ba s a:Nat):Int):=by unfold wrap64;omega
 have hlen:(ew s a).length=ba s a:=by unfold ew;rw[List.length_take,List.length_drop,← aU];omega
 have hstep:∀ k,ah.l0 (k+3) s (a:Int) L p le e=ah.l1 k s (a:Int) L (plc e p a) le e ((ew s a).length:Int) (mkB (ew s a)) 0:=by
  intro k
  have hj:ah.l0 (k+3) s (a:Int) L p le e=ah.j1 (k+2) s (a:Int) L p le e (ba s a:Int) false:=by
   conv=>lhs;unfold ah.l0
   rw[if_pos (by omega),if_neg (by omega),if_pos (by omega),if_pos (by omega),dV,wN _ (by omega),if_neg (by omega),if_neg (by omega),if_neg (by omega),d_ (by omega),hw2,decide_eq_false (by omega)]
  have hj2:ah.j1 (k+2) s (a:Int) L p le e (ba s a:Int) false=ah.j2 (k+1) s (a:Int) L (plc e p a) le e (ba s a:Int):=by
   conv=>lhs;unfold ah.j1
   unfold plc;rw[if_neg (by simp)]
   by_cases he:e<0
   ·rw[if_pos he,if_pos he,if_pos hp]
   ·rw[if_neg he,if_neg he]
  rw[hj,hj2]
  conv=>lhs;unfold ah.j2
  rw[d_ (by omega),hw2,if_pos (by omega),if_pos (by omega),if_pos (by omega),Int.toNat_natCast,Int.toNat_natCast,fE,hlen,show a+1+ba s a-(a+1)=ba s a by omega];rfl
 have lift:∀ r,Ev (fun k=>ah.l1 k s (a:Int) L (plc e p a) le e ((ew s a).length:Int) (mkB (ew s a)) ((0:Nat):Int)) r→Ev (fun k=>ah.l0 k s (a:Int) L p le e) r:=by
  intro r hr;obtain⟨K,hK⟩:=hr
  exact⟨K+3,fun k hk=>by
   obtain⟨j,rfl⟩:∃ j,k=j+3:=⟨k-3,by omega⟩;show ah.l0 (j+3) s (a:Int) L p le e=_;rw[hstep];exact hK j (by omega)⟩
 by_cases hd:∃ y∈ew s a,y=46
 ·exact .inl ⟨lift _ (lq s a L (plc e p a) le e (ew s a) (by omega) h2 (ew s a).length 0 (by omega) hd),hd⟩
 · have hd' : ∀ y ∈ ew s a, y ≠ 46 := fun y hy e1 => hd ⟨y, hy, e1⟩
   refine .inr ⟨hd',fun r hr=>lift r (kY s a L (plc e p a) le e (ew s a) (by omega) h2 (ew s a).length 0 (by omega) hd' r ?_)⟩;rw[hlen,hw3];exact hr
end
end Go.Proofs.YtiegkjimpclmaaaGreatDoor.Pure
namespace Go.Proofs.YtiegkjimpclmaaaGreatDoor.Pure
open Go.Proofs.YtiegkjimpclmaaaGreatDoor.P
theorem ni(l:List UInt8)(most:Int)(h:0≤most): decide (0≤gE l∧gE l≤most)=(fk l&&decide ((eE l:Int)≤most)):=by
 unfold gE
 by_cases hc:fk l=true
 · rw [if_pos hc, hc, Bool.true_and, decide_eq_decide]
   omega
 · rw [if_neg hc, Bool.eq_false_iff.mpr hc, Bool.false_and, decide_eq_false_iff_not]
   omega
theorem nu{l:List UInt8}{most:Int}(h:(fk l&&decide ((eE l:Int)≤most))=true): gE l=(eE l:Int):=by
 rw[Bool.and_eq_true]at h;unfold gE;rw[if_pos h.1]
theorem s1(v:Int): (strOfNums [v]).size=1:=by rw[strOfNums_size];rfl
theorem nF(parts:List ByteArray)(hl:parts.length<1099511627776)(hs:∀ x∈parts,x.size≤1048576): ∀ (m i:Nat) (out:ByteArray),i+m=parts.length→out.size+m<1099511627777 →
 ∃ r,Ev (fun k=>ag.l0 k out parts parts (parts.length:Int) (i:Int)) r∧((parts.length:Int)=4→Ev (fun k=>ap.l0 k parts out (i:Int)) r)∧(¬ (parts.length:Int)=4→r.2=false)∧(r.2=false→r.1=(⟨#[]⟩:ByteArray)∨¬ (parts.length:Int)=4)
 | 0,i,out,him,ho=>by
  refine⟨(out,(parts.length:Int)==4),Ev.step (f:=fun _=>some (out,(parts.length:Int)==4)) (fun k=>?_) (Ev.now _),fun h4=>?_,fun h4=>beq_eq_false_iff_ne.mpr h4,fun h4=> .inr (beq_eq_false_iff_ne.mp h4)⟩
  · show ag.l0 (k + 1) out parts parts (parts.length : Int) (i : Int) = _
    conv=>lhs;unfold ag.l0
    rw[if_neg (by omega)]
  · rw [h4]
    refine Ev.step (f:=fun _=>some (out,true)) (fun k=>?_) (Ev.now _);show ap.l0 (k+1) parts out (i:Int)=_
    conv=>lhs;unfold ap.l0
    rw[if_neg (by omega)]
 | m+1,i,out,him,ho=>by
  have hi:i<parts.length:=by omega
  have hsz:=hs _ (List.getElem_mem hi);obtain⟨v,hn1,hn2⟩:=eW parts[i] 255 (by omega) (by omega) (by omega);have hin:=mG parts[i] (by omega)
  have es:∀ k,ag.l0 (k+1) out parts parts (parts.length:Int) (i:Int)=(aN.f k parts[i]).bind fun g0=>((cj.f g0 0 255).bind fun g6=>(if g6=true then((am.f k g0 1).bind fun g5=>(if out.size+g5.size≤9223372036854775807 then(ag.l0 k (out++g5) parts parts (parts.length:Int) ((i+1:Nat):Int))else(none)))else(some ((⟨#[]⟩:ByteArray),false)))):=fun k=>by
   conv=>lhs;unfold ag.l0
   rw[if_pos (by omega),if_pos (by omega),if_pos (by omega),lX parts i hi,d_ (by omega)]
  have ei:(parts.length:Int)=4→∀ k,ap.l0 (k+1) parts out (i:Int)=if(fk parts[i].data.toList&&decide ((eE parts[i].data.toList:Int)≤255))=true then((aW.f k v 1).bind fun t=>(if out.size+t.size≤9223372036854775807 then ap.l0 k parts (out++t) ((i+1:Nat):Int)else none))else some dT:=fun h4 k=>by
   conv=>lhs;unfold ap.l0
   rw[if_pos (by omega),if_pos (by omega),lX parts i hi,hn1,Option.bind_some,d_ (by omega)];simp only[if_pos h4]
  have hdec:=ni parts[i].data.toList 255 (by omega)
  by_cases hb:(fk parts[i].data.toList&&decide ((eE parts[i].data.toList:Int)≤255))=true
  · have hv := hn2 hb
    have hnv:=nu hb;obtain⟨r,g1,g2,g3,g4⟩:=nF parts hl hs m (i+1) (out++strOfNums [v%256]) (by omega) (by rw[ByteArray.size_append,s1];omega);refine⟨r,Ev.step es (Ev.bind hin ?_),fun h4=>Ev.step (ei h4) ?_,g3,g4⟩
    · simp only [dA, Option.bind_some, hdec, hb, if_true]
      rw[hnv,← hv]
      refine Ev.bind (mt v) ?_
      simp only[if_pos (show out.size+(strOfNums [v%256]).size≤9223372036854775807 by rw[s1];omega)];exact g1
    · simp only [hb, if_true]
      refine Ev.bind (kJ v) ?_
      simp only[if_pos (show out.size+(strOfNums [v%256]).size≤9223372036854775807 by rw[s1];omega)];exact g2 h4
  · refine ⟨dT, Ev.step es (Ev.bind hin ?_), fun h4 => Ev.step (ei h4) ?_, fun _ => rfl, fun _ => .inl rfl⟩
    · simp only [dA, Option.bind_some, hdec, if_neg hb]
      exact Ev.now _
    · simp only [if_neg hb]
      exact Ev.now _
theorem mr(s:ByteArray)(hs:s.size≤1048576): ∀ (m i:Nat),i+m=s.size →
 Ev (fun k=>ag.l1 k s (i:Int)) (if((bytesOf s).drop i).any (fun c=>decide (c<32)||decide (c>126))=true then dT else(strOfNums [((s.size:Int))%256]++s,decide ((s.size:Int)≤30)))
 | 0,i,him=>by
  have hlen:(bytesOf s).length=s.size:=hU s;rw[List.drop_of_length_le (by omega),List.any_nil,if_neg (by simp)];refine Ev.step (f:=fun _=>some _) (fun k=>?_) (Ev.now _);show ag.l1 (k+1) s (i:Int)=_
  conv=>lhs;unfold ag.l1
  rw[if_neg (by omega),Option.bind_some,if_pos (by rw[s1];omega)]
 | m+1,i,him=>by
  have hlen:(bytesOf s).length=s.size:=hU s
  have hi:i<(bytesOf s).length:=by omega
  have hb:bt s (i:Int)=(bytesOf s)[i]:=by
   rw[← ng];unfold rd;rw[Int.toNat_natCast,List.getD_eq_getElem?_getD,List.getElem?_eq_getElem hi];rfl
  rw[List.drop_eq_getElem_cons hi,List.any_cons]
  have e0:∀ k,ag.l1 (k+1) s (i:Int)=(if(bytesOf s)[i]<32 then(some ((⟨#[]⟩:ByteArray),false))else(if(bytesOf s)[i]>126 then(some ((⟨#[]⟩:ByteArray),false))else(ag.l1 k s ((i+1:Nat):Int)))):=fun k=>by
   conv=>lhs;unfold ag.l1
   rw[if_pos (by omega),if_pos (by omega),hb,d_ (by omega)]
  have ih:=mr s hs m (i+1) (by omega)
  by_cases h1:(bytesOf s)[i]<32
  · rw [decide_eq_true h1, Bool.true_or, Bool.true_or, if_pos rfl]
    refine Ev.step e0 ?_
    simp only[if_pos h1];exact Ev.now _
  · by_cases h2 : (bytesOf s)[i] > 126
    · rw [decide_eq_true h2, Bool.or_true, Bool.true_or, if_pos rfl]
      refine Ev.step e0 ?_
      simp only[if_neg h1,if_pos h2];exact Ev.now _
    · rw [decide_eq_false h1, decide_eq_false h2, Bool.or_false, Bool.false_or]
      refine Ev.step e0 ?_
      simp only[if_neg h1,if_neg h2];exact ih
theorem sg(parts:List ByteArray)(hp:0<parts.length)(h4:¬ (parts.length:Int)=4)(hs:∀ x∈parts,x.size≤1048576): Ev (fun k=>ap.l0 k parts (⟨#[]⟩:ByteArray) 0) dT:=by
 obtain⟨v,hn1,_⟩:=eW parts[0] 255 (by have:=hs _ (List.getElem_mem hp);omega) (by omega) (by omega);refine Ev.step (f:=fun _=>some dT) (fun k=>?_) (Ev.now _);show ap.l0 (k+1) parts (⟨#[]⟩:ByteArray) ((0:Nat):Int)=_
 conv=>lhs;unfold ap.l0
 rw[if_pos (by omega),if_pos (by omega),lX parts 0 hp,hn1,Option.bind_some];simp only[if_neg h4]
 split<;>rfl
def iF(k:Nat)(kind:Int)(s:ByteArray): Option (ByteArray×Bool):=(ag.f k kind s).bind fun g0=>(if g0.2=true then(some (g0.1,true))else(some ((⟨#[]⟩:ByteArray),false)))
theorem ef{kind:Int}{s:ByteArray}{q:ByteArray×Bool}(h:Ev (fun k=>ag.f k kind s) q): Ev (fun k=>iF k kind s) (if q.2=true then(q.1,true)else dT):=by
 refine Ev.congr (fun k=>rfl) (Ev.bind h ?_)
 by_cases hq:q.2=true
 ·simp only[if_pos hq];exact Ev.now _
 ·simp only[if_neg hq];exact Ev.now _
def iP(kind:Int)(s:ByteArray): Prop:=∃ r,Ev (fun k=>iF k kind s) r∧Ev (fun k=>ap.f k kind s) r
theorem pQ(s:ByteArray)(hs:s.size≤1048576): iP 1 s:=by
 have hne:=eL 46 s.data.toList
 have hpl:0<((bC 46 s.data.toList).map mkB).length:=by rw[List.length_map];exact List.length_pos_iff.2 hne
 have hlen:((bC 46 s.data.toList).map mkB).length≤s.size+1:=by rw[List.length_map,aU];exact eU _ _
 have hsz:∀ x∈(bC 46 s.data.toList).map mkB,x.size≤1048576:=by
  intro x hx;obtain⟨q,hq,rfl⟩:=List.mem_map.1 hx;have:=eY 46 _ q hq;rw[← aU]at this;rw[cF];omega
 have hsp:cM.f s (⟨#[46]⟩:ByteArray)=some ((bC 46 s.data.toList).map mkB):=by
  unfold cM.f;rw[if_pos (show(⟨#[46]⟩:ByteArray).size=1 from rfl),if_pos (by omega)];rfl
 generalize hp:(bC 46 s.data.toList).map mkB=parts at hpl hlen hsz hsp;have hse:=ks s (by omega);rw[hp]at hse;obtain⟨r,g1,g2,g3,g4⟩:=nF parts (by omega) hsz parts.length 0 (⟨#[]⟩:ByteArray) (by omega) (by show 0+_<_;omega);have hspec:Ev (fun k=>ag.f k 1 s) r:=Ev.congr (f:=fun k=>(aQ.f k s 46).bind fun g0=>(ag.l0 k (⟨#[]⟩:ByteArray) g0 g0 (g0.length:Int) 0)) (fun k=>by unfold ag.f;rw[if_pos rfl]) (Ev.bind hse g1)
 have ei:∀ k,ap.f k 1 s=ap.l0 k parts (⟨#[]⟩:ByteArray) 0:=fun k=>by
  unfold ap.f;rw[if_pos rfl,hsp,Option.bind_some]
 by_cases h4:(parts.length:Int)=4
 · refine ⟨r, ?_, Ev.congr ei (g2 h4)⟩
   have hd:=ef hspec
   by_cases hr:r.2=true
   · rw [if_pos hr] at hd
     have:(r.1,true)=r:=Prod.ext rfl hr.symm
     rwa [this]at hd
   · rw [if_neg hr] at hd
     have hf:=Bool.eq_false_iff.mpr hr
     have:dT=r:=by
      rcases g4 hf with e|e
      ·exact Prod.ext e.symm hf.symm
      ·exact absurd h4 e
     rwa [this]at hd
 · refine ⟨dT, ?_, Ev.congr ei (sg parts hpl h4 hsz)⟩
   have hd:=ef hspec
   rwa [g3 h4,if_neg (by simp)]at hd
theorem gh{l:List UInt8}(h:fI l=true): cO l=true:=by
 unfold fI at h;simp only[Bool.and_eq_true]at h;exact h.2.1
theorem nO(s:ByteArray)(h:fI s.data.toList=true): ∃ r,Ev (fun k=>aT.f k s) r∧Ev (fun k=>bh.f k s) (r++(⟨#[0]⟩:ByteArray))∧r.size≤61:=by
 have hg:=gh h;obtain⟨r,e1,e2,e3⟩:=nU s hg;have:=ec hg;rw[← aU]at this;exact⟨r,e1,e2,by rw[e3];split<;>omega⟩
theorem oZ(kind:Int)(hk:kind=2∨kind=5)(s:ByteArray)(hs:s.size≤1048576): iP kind s:=by
 have k1:¬ kind=1:=by omega
 have hj:∀ k,ag.f k kind s=ag.j1 k s kind true:=fun k=>by
  unfold ag.f;rw[if_neg k1]
  rcases hk with rfl|rfl
  ·rw[if_pos rfl];rfl
  ·rw[if_neg (by omega)];rfl
 have ei:∀ k,ap.f k kind s=gR k s:=fun k=>by
  unfold ap.f;rw[if_neg k1,if_pos hk]
 have et:=fb s
 by_cases ht:fI s.data.toList=true
 · obtain ⟨r, e1, e2, e3⟩ := nO s ht
   have hz:(r++(⟨#[0]⟩:ByteArray)).size=r.size+1:=by rw[ByteArray.size_append];rfl
   refine⟨(r++(⟨#[0]⟩:ByteArray),true),?_,?_⟩
   · have:Ev (fun k=>ag.f k kind s) (r++(⟨#[0]⟩:ByteArray),true):=by
      refine Ev.congr hj (Ev.step (f:=fun k=>(a_.f k s).bind fun g0=>(if g0=true then((bh.f k s).bind fun g1=>(some (g1,true)))else(some ((⟨#[]⟩:ByteArray),false)))) (fun k=>rfl) (Ev.bind (gN s hs) ?_));simp only[if_pos ht];exact Ev.bind e2 (Ev.now _)
     have hd:=ef this
     rwa [if_pos rfl]at hd
   · refine Ev.congr ei ?_
     unfold gR;simp only[et,Option.bind_some,if_pos ht]
     refine Ev.bind e1 ?_
     simp only[if_pos (show r.size+1≤9223372036854775807 by omega)];exact Ev.now _
 · refine ⟨dT, ?_, ?_⟩
   · have:Ev (fun k=>ag.f k kind s) dT:=by
      refine Ev.congr hj (Ev.step (f:=fun k=>(a_.f k s).bind fun g0=>(if g0=true then((bh.f k s).bind fun g1=>(some (g1,true)))else(some ((⟨#[]⟩:ByteArray),false)))) (fun k=>rfl) (Ev.bind (gN s hs) ?_));simp only[if_neg ht];exact Ev.now _
     exact ef this
   · refine Ev.congr ei ?_
     unfold gR;simp only[et,Option.bind_some,if_neg ht];exact Ev.now _
theorem lL(kind:Int)(h1:¬ kind=1)(h2:¬ kind=2)(h5:¬ kind=5)(s:ByteArray)(k:Nat): ag.f k kind s=ag.j1 k s kind false:=by
 unfold ag.f;rw[if_neg h1,if_neg h2,show(kind==5)=false from beq_eq_false_iff_ne.mpr h5]
theorem mC(s:ByteArray)(hs:s.size≤1048576): iP 6 s:=by
 obtain⟨v,hn1,hn2⟩:=eW s 4294967295 (by omega) (by omega) (by omega);have hin:=mG s (by omega);have hdec:=ni s.data.toList 4294967295 (by omega)
 have ei:∀ k,ap.f k 6 s=fR k s:=fun k=>by
  unfold ap.f;rw[if_neg (by omega),if_neg (by omega),if_pos rfl]
 have hspec:Ev (fun k=>ag.f k 6 s) (strOfNums [gE s.data.toList / 16777216%256,gE s.data.toList / 65536%256,gE s.data.toList / 256%256,gE s.data.toList%256],fk s.data.toList&&decide ((eE s.data.toList:Int)≤4294967295)):=by
  refine Ev.congr (fun k=>lL 6 (by omega) (by omega) (by omega) s k) (Ev.step (f:=fun k=>(aN.f k s).bind fun g0=>((am.f k g0 4).bind fun g1=>((cj.f g0 0 4294967295).bind fun g2=>(some (g1,g2))))) (fun k=>rfl) (Ev.bind hin (Ev.bind (sN _) ?_)));simp only[dA,Option.bind_some,hdec];exact Ev.now _
 have hd:=ef hspec
 by_cases hb:(fk s.data.toList&&decide ((eE s.data.toList:Int)≤4294967295))=true
 · have hv := hn2 hb
   have hnv:=nu hb;rw[if_pos hb,hnv,← hv]at hd;refine⟨_,hd,Ev.congr ei ?_⟩;unfold fR;simp only[hn1,Option.bind_some,if_pos hb];exact Ev.bind (sl v) (Ev.now _)
 · rw [if_neg hb] at hd
   refine⟨_,hd,Ev.congr ei ?_⟩;unfold fR;simp only[hn1,Option.bind_some,if_neg hb];exact Ev.now _
theorem ou(s:ByteArray)(hs:s.size≤1048576): iP 16 s:=by
 have ei:∀ k,ap.f k 16 s=fA k s:=fun k=>by
  unfold ap.f;rw[if_neg (by omega),if_neg (by omega),if_neg (by omega),if_neg (by omega),if_pos rfl]
 have hspec:Ev (fun k=>ag.f k 16 s) (if(bytesOf s).any (fun c=>decide (c<32)||decide (c>126))=true then dT else(strOfNums [((s.size:Int))%256]++s,decide ((s.size:Int)≤30))):=
  Ev.congr (fun k=>lL 16 (by omega) (by omega) (by omega) s k) (Ev.step (f:=fun k=>ag.l1 k s 0) (fun k=>rfl) (mr s hs s.size 0 (by omega)))
 have hd:=ef hspec
 by_cases hb:(bytesOf s).any (fun c=>decide (c<32)||decide (c>126))=true
 · rw [if_pos hb] at hd
   refine⟨_,hd,Ev.congr ei ?_⟩;unfold fA
   by_cases h30:(s.size:Int)>30
   ·simp only[if_pos h30];exact Ev.now _
   ·simp only[if_neg h30,if_pos hb];exact Ev.now _
 · rw [if_neg hb] at hd
   by_cases h30:(s.size:Int)>30
   · rw [decide_eq_false (show ¬ (s.size : Int) ≤ 30 by omega), if_neg (by simp)] at hd
     refine⟨_,hd,Ev.congr ei ?_⟩;unfold fA
     simp only[if_pos h30];exact Ev.now _
   · rw [decide_eq_true (show (s.size : Int) ≤ 30 by omega), if_pos rfl] at hd
     refine⟨_,hd,Ev.congr ei ?_⟩;unfold fA;simp only[if_neg h30,if_neg hb]
     refine Ev.bind (kJ _) ?_
     simp only[if_pos (show(strOfNums [(s.size:Int)%256]).size+s.size≤9223372036854775807 by rw[s1];omega)];exact Ev.now _
theorem oV{r:List UInt8}(h:32∈r): fI r=false:=by
 rw[Bool.eq_false_iff];intro ht;have hg:=jW (gh ht)
 have hne:r≠[]:=by rintro rfl;cases h
 obtain⟨p,hp,hb⟩:=(iU r 32 (by decide)).1 h;have:=hg.2 p (by unfold bG;rw[if_neg hne];exact hp);unfold bH at this;rw[Bool.or_eq_true,beq_iff_eq,Bool.and_eq_true,List.all_eq_true]at this
 rcases this with e|e
 ·rw[e]at hb;simp at hb
 ·exact absurd (e.2 32 hb) (by decide)
theorem ob(s:ByteArray)(hs:s.size≤1048576): iP 15 s:=by
 have ei:∀ k,ap.f k 15 s=gz k s:=fun k=>by
  unfold ap.f;rw[if_neg (by omega),if_neg (by omega),if_neg (by omega),if_pos rfl]
 have hse:=na s (by omega)
 have hj:∀ {q:ByteArray×Bool},Ev (fun k=>(aQ.f k s 32).bind fun g0=>(if(g0.length:Int)=2 then(if 0<(g0.length:Int)then((aN.f k (bn ByteArray.empty g0 0)).bind fun g6=>((cj.f g6 0 65535).bind fun g7=>(if g7=true then(if 1<(g0.length:Int)then((a_.f k (bn ByteArray.empty g0 1)).bind fun g8=>(ag.j2 k g0 (!g8)))else(none))else(ag.j2 k g0 true))))else(none))else(ag.j2 k g0 true))) q→Ev (fun k=>ag.f k 15 s) q:=fun h=>
  Ev.congr (fun k=>lL 15 (by omega) (by omega) (by omega) s k) (Ev.step (fun k=>rfl) h)
 have jbad:∀ l,Ev (fun k=>ag.j2 k l true) dT:=fun l=>Ev.step (f:=fun _=>some dT) (fun k=>rfl) (Ev.now _)
 have hcutI:∀ p r,s.data.toList=p++32::r→(∀ x∈p,x≠32)→cy.f s (⟨#[32]⟩:ByteArray)=some (mkB p,mkB r,true):=by
  intro p r h1 h2
  have hix:Lib.indexByte s.data.toList 32=(p.length:Int):=by
   rcases eK 32 s.data.toList with⟨_,g2⟩|⟨p',r',g1,g2,g3⟩
   ·exact absurd rfl (g2 32 (by rw[h1];simp))
   · have e : p' :: bC 32 r' = p :: bC 32 r := by rw [← dM 32 p' r' g2, ← g1, h1, dM 32 p r h2]
     rw[g3,(List.cons.inj e).1]
  have hl:p.length+(r.length+1)=s.size:=by rw[aU,h1];simp
  unfold cy.f cX.f aV.f;rw[if_pos (show(⟨#[32]⟩:ByteArray).size=1 from rfl)];simp only[Option.bind_some];rw[show List.headD (⟨#[32]⟩:ByteArray).data.toList 0=32 from rfl,show(⟨#[32]⟩:ByteArray).size=1 from rfl,hix,show(((1:Nat):Int))=1 from rfl,d_ (by omega),if_pos (by omega),if_pos (by omega),if_pos (by omega),if_pos (by omega),if_pos (by omega),Int.toNat_natCast,Int.toNat_natCast,fE,iE]
  have e1:(s.data.toList.drop 0).take (p.length-0)=p:=by rw[h1];simp
  have e2:s.data.toList.drop (p.length+1)=r:=by
   rw[h1,show p++32::r=(p ++ [32])++r by simp,List.drop_append_of_le_length (by simp),List.drop_of_length_le (by simp),List.nil_append]
  rw[e1,e2];rfl
 rcases eK 32 s.data.toList with⟨h1,h2⟩|⟨p,r,h1,h2,h3⟩
 · -- no space
   refine⟨dT,?_,Ev.congr ei ?_⟩
   · refine ef (q := dT) (hj (Ev.bind hse ?_))
     rw[el _ _ h2];simp only[List.map_cons,List.map_nil,List.length_cons,List.length_nil];exact jbad _
   · have hcut:cy.f s (⟨#[32]⟩:ByteArray)=some (s,(⟨#[]⟩:ByteArray),false):=by
      unfold cy.f cX.f aV.f;rw[if_pos (show(⟨#[32]⟩:ByteArray).size=1 from rfl)];simp only[Option.bind_some];rw[show List.headD (⟨#[32]⟩:ByteArray).data.toList 0=32 from rfl,h1,if_neg (by omega)];rfl
     obtain⟨v,hn1,_⟩:=eW s 65535 (by omega) (by omega) (by omega);unfold gz;simp only[hcut,Option.bind_some,hn1,fb];have:fI (⟨#[]⟩:ByteArray).data.toList=false:=rfl;rw[this];refine Ev.congr (f:=fun _=>some dT) (fun k=>?_) (Ev.now _)
     split<;>rfl
 · have hcut := hcutI p r h1 h2
   have hsl:bC 32 s.data.toList=p::bC 32 r:=by rw[h1];exact dM 32 p r h2
   have hsz:p.length+r.length+1=s.size:=by rw[aU,h1];simp;omega
   obtain⟨v,hn1,hn2⟩:=eW (mkB p) 65535 (by rw[cF];omega) (by omega) (by omega);rw[cn]at hn1 hn2
   have hei:∀ k,gz k s=(if(fk p&&decide ((eE p:Int)≤65535))=true then(if fI r=true then((aW.f k v 2).bind fun g=>((aT.f k (mkB r)).bind fun lb=>(if g.size+lb.size≤9223372036854775807 then(if g.size+lb.size+1≤9223372036854775807 then some ((g++lb)++(⟨#[0]⟩:ByteArray),true)else none)else none)))else some dT)else some dT):=fun k=>by
    unfold gz;simp only[hcut,Option.bind_some,hn1,fb,cn]
   have hdec:=ni p 65535 (by omega);have hin:=mG (mkB p) (by rw[cF];omega);rw[cn]at hin
   rcases eK 32 r with⟨_,r2⟩|⟨p',r',r1,_,_⟩
   · -- two parts
     rw[hsl,el _ _ r2]at hse;simp only[List.map_cons,List.map_nil]at hse;have htg:=gN (mkB r) (by rw[cF];omega);rw[cn]at htg
     by_cases hb:(fk p&&decide ((eE p:Int)≤65535))=true
     · by_cases ht : fI r = true
       · have hv := hn2 hb
         have hnv:=nu hb;obtain⟨lb,e1,e2,e3⟩:=nO (mkB r) (by rw[cn];exact ht)
         have g2s:(strOfNums [v / 256%256,v%256]).size=2:=by rw[strOfNums_size];rfl
         refine⟨((strOfNums [v / 256%256,v%256]++lb)++(⟨#[0]⟩:ByteArray),true),?_,Ev.congr ei (Ev.congr hei ?_)⟩
         · have:Ev (fun k=>ag.f k 15 s) ((strOfNums [v / 256%256,v%256]++lb)++(⟨#[0]⟩:ByteArray),true):=by
            refine hj (Ev.bind hse ?_);simp only[List.length_cons,List.length_nil,show((0+1+1:Nat):Int)=2 from rfl,if_true,if_pos (show(0:Int)<2 by omega),if_pos (show(1:Int)<2 by omega)]
            refine Ev.bind (a:=gE p) hin ?_
            simp only[dA,Option.bind_some,hdec,hb,if_true]
            refine Ev.bind (a:=true) (by rw[← ht];exact htg) ?_
            refine Ev.step (f:=fun k=>(aN.f k (mkB p)).bind fun g9=>((am.f k g9 2).bind fun g4=>((bh.f k (mkB r)).bind fun g5=>(if g4.size+g5.size≤9223372036854775807 then(some (g4++g5,true))else(none))))) (fun k=>rfl) (Ev.bind hin ?_);rw[hnv,← hv];refine Ev.bind (rp v) (Ev.bind e2 ?_);rw[← ByteArray.append_assoc];simp only[if_pos (show(strOfNums [v / 256%256,v%256]).size+(lb++(⟨#[0]⟩:ByteArray)).size≤9223372036854775807 by rw[g2s,ByteArray.size_append];show 2+(lb.size+1)≤_;omega)];exact Ev.now _
           have hd:=ef this
           rwa [if_pos rfl]at hd
         · simp only [hb, ht, if_true]
           refine Ev.bind (qV v) (Ev.bind e1 ?_);simp only[g2s,if_pos (show 2+lb.size≤9223372036854775807 by omega),if_pos (show 2+lb.size+1≤9223372036854775807 by omega)];exact Ev.now _
       · refine ⟨dT, ?_, Ev.congr ei (Ev.congr hei ?_)⟩
         · refine ef (q := dT) (hj (Ev.bind hse ?_))
           simp only[List.length_cons,List.length_nil,show((0+1+1:Nat):Int)=2 from rfl,if_true,if_pos (show(0:Int)<2 by omega),if_pos (show(1:Int)<2 by omega)]
           refine Ev.bind (a:=gE p) hin ?_
           simp only[dA,Option.bind_some,hdec,hb,if_true]
           refine Ev.bind (a:=false) (by rw[← Bool.eq_false_iff.mpr ht];exact htg) ?_
           exact jbad _
         · simp only [hb, if_neg ht, if_true]
           exact Ev.now _
     · refine ⟨dT, ?_, Ev.congr ei (Ev.congr hei ?_)⟩
       · refine ef (q := dT) (hj (Ev.bind hse ?_))
         simp only[List.length_cons,List.length_nil,show((0+1+1:Nat):Int)=2 from rfl,if_true,if_pos (show(0:Int)<2 by omega),if_pos (show(1:Int)<2 by omega)]
         refine Ev.bind (a:=gE p) hin ?_
         simp only[dA,Option.bind_some,hdec,if_neg hb];exact jbad _
       · simp only [if_neg hb]
         exact Ev.now _
   · -- more parts
     have htf:=oV (r:=r) (by rw[r1];simp);refine⟨dT,?_,Ev.congr ei (Ev.congr hei ?_)⟩
     · refine ef (q := dT) (hj (Ev.bind hse ?_))
       have hl:¬ (((bC 32 s.data.toList).map mkB).length:Int)=2:=by
        rw[List.length_map,hsl,r1,dM 32 p' r' (by assumption)];have:=List.length_pos_iff.2 (eL 32 r');simp only[List.length_cons];omega
       simp only[if_neg hl];exact jbad _
     · simp only [htf, Bool.false_eq_true, if_false]
       refine Ev.congr (f:=fun _=>some dT) (fun k=>?_) (Ev.now _)
       split<;>rfl
theorem oy(kind:Int)(s:ByteArray)(hs:s.size≤1048576): iP kind s:=by
 by_cases c1:kind=1
 ·subst c1;exact pQ s hs
 · by_cases c2 : kind = 2 ∨ kind = 5
   ·exact oZ kind c2 s hs
   · by_cases c6 : kind = 6
     ·subst c6;exact mC s hs
     · by_cases g0 : kind = 15
       ·subst g0;exact ob s hs
       · by_cases g1 : kind = 16
         ·subst g1;exact ou s hs
         · refine ⟨dT, ?_, Ev.congr (f := fun _ => some dT) (fun k => ?_) (Ev.now _)⟩
           · refine ef (q := dT) (Ev.congr (fun k => lL kind c1 (fun e => c2 (.inl e)) (fun e => c2 (.inr e)) s k) (Ev.step (f := fun _ => some dT) (fun k => ?_) (Ev.now _)))
             show ag.j1 (k+1) s kind false=some dT;simp[ag.j1,c6,g0,g1,dT]
           · unfold ap.f
             rw[if_neg c1,if_neg c2,if_neg c6,if_neg g0,if_neg g1]
end Go.Proofs.YtiegkjimpclmaaaGreatDoor.Pure
namespace Go.Proofs.YtiegkjimpclmaaaGreatDoor.P
attribute [local go_sem] cG cD c_ cZ ci ch cE cH
mutual
def bx.l0: Nat→ByteArray→ByteArray→List Int→ByteArray→Option (ByteArray)
 | 0,_,_,_,_=>none
 | k+1,x0,x1,x5,x6=>if x1.toList=([]:List UInt8)then(if x0.size+x6.size≤9223372036854775807 then(if(x0++x6).size+1≤9223372036854775807 then(some ((x0++x6)++(⟨#[0]⟩:ByteArray)))else(none))else(none))else(bx.l1 k x0 x1 x5 x6 x5 (x5.length:Int) 0)
def bx.l1: Nat→ByteArray→ByteArray→List Int→ByteArray→List Int→Int→Int→Option (ByteArray)
 | 0,_,_,_,_,_,_,_=>none
 | k+1,x0,x1,x5,x6,g2,g5,g1=>if g1<g5 then(if 0≤g1 then(if g1<(g2.length:Int)then((ah.f k x0 (rd g2 g1)).bind fun g4=>(if g4.2.2.2=true then(if g4.1.toList=x1.toList then(if x0.size+x6.size≤9223372036854775807 then((some (([(wrap64 (192+(wrap64 (Int.tdiv (rd g2 g1) 256))))%256,(rd g2 g1)%256]:List Int):List Int)).bind fun g6=>(if(x0++x6).size+(strOfNums g6).size≤9223372036854775807 then(some ((x0++x6)++(strOfNums g6)))else(none)))else(none))else(bx.l1 k x0 x1 x5 x6 g2 g5 (wrap64 (g1+1))))else(bx.l1 k x0 x1 x5 x6 g2 g5 (wrap64 (g1+1)))))else(none))else(none))else((aw.f k x1).bind fun g0=>(if 0<(g0.1.length:Int)then((some (([(((bn ByteArray.empty g0.1 0).size:Int))%256]:List Int):List Int)).bind fun g3=>(if(strOfNums g3).size+(bn ByteArray.empty g0.1 0).size≤9223372036854775807 then(if x6.size+((strOfNums g3)++(bn ByteArray.empty g0.1 0)).size≤9223372036854775807 then((bo.f k x1).bind fun g7=>(bx.l0 k x0 g7 x5 (x6++((strOfNums g3)++(bn ByteArray.empty g0.1 0)))))else(none))else(none)))else(none)))
end
def bx.f(k:Nat)(a0:ByteArray)(a1:ByteArray): Option (ByteArray):=(bQ.f k a0).bind fun g0=>(bx.l0 k a0 a1 g0 (⟨#[]⟩:ByteArray))
theorem pA(w:World)(x0 x1:Int)(t:TypeId)(j:Nat)(hj:j<2): (w.alloc (Obj.cells #[.int .u8 x0,.int .u8 x1] t)).cell? ((⟨w.heap.size,0,none⟩:Addr).add j)=some (.int .u8 (([x0,x1]:List Int).getD j 0)):=by
 rw[dj];unfold World.cell?;rw[heap_alloc_new]
 rcases j with _|_|j
 ·simp
 ·simp
 ·omega
set_option maxHeartbeats 4000000 in
theorem bx.c(k:Nat)(a0:ByteArray)(a1:ByteArray)(r:ByteArray)(w:World)(h:bx.f k a0 a1=some r):
 Calls Tryz.prog 196 #[.string a0,.string a1] w fun e w'=>e = .returned (.string r)∧Below w.heap.size w w':=by
 unfold bx.f at h;obtain⟨places,hp,h⟩:=Option.bind_eq_some_iff.mp h
 have sc:=fun W=>bQ.c k a0 places W hp
 have H':=ab.mk h;clear h;go_enter Tryz.func196,Tryz.ntmps196;go_wp2_with (go_at_call 237;refine(sc _).mono ?_;rintro e w1 ⟨v,rfl,hR,hbw⟩;have HO:=ab.mk hR;have HB1:=ab.mk hbw;clear hR hbw;obtain⟨A,c,rfl⟩:=Kd.R_slice HO.out);go_loopg [1,6] k (fun kq v1 v6 wr=> ∃ (rest head:ByteArray),v1 = .string rest∧v6 = .string head∧ab (bx.l0 kq a0 rest places head=some r)∧ab (kq≤k)∧ab (Kd.C (Kd.int .i64) wr A places.length places)∧ab (Below w.heap.size w wr))
 case atStart=>exact⟨a1,(⟨#[]⟩:ByteArray),rfl,rfl,H',⟨Nat.le_refl _⟩,⟨(Kd.R_reads' HO.out).2.2⟩,HB1⟩
 case round=>
  obtain⟨rest,head,rfl,rfl,HA,HK1,HC,BW⟩:=hrel
  cases gk with
  | zero=>exact absurd HA.out (by simp[bx.l0])
  | succ k1=>
   have H:=HA.out;clear HA;simp only[bx.l0]at H
   by_cases c1:rest.toList=([]:List UInt8)
   · rw [if_pos c1] at H
     have c1b:(rest.toList==([]:List UInt8))=true:=by rw[c1];rfl
     have c1c:(rest.toList !=([]:List UInt8))=false:=by rw[c1];rfl
     by_cases c4:a0.size+head.size≤9223372036854775807
     · rw [if_pos c4] at H
       by_cases c5:(a0++head).size+1≤9223372036854775807
       · rw [if_pos c5] at H
         have c4a:=eq_true c4;have c4c:(9223372036854775807<a0.size+head.size)=False:=eq_false (by omega);have hbs:(a0++head).size=a0.size+head.size:=ByteArray.size_append;rw[hbs]at c5;have c6a:=eq_true c5;have c6c:(9223372036854775807<a0.size+head.size+1)=False:=eq_false (by omega);clear hbs;go_wp2;go_ret;obtain rfl:=Option.some.inj H;exact⟨rfl,BW.out⟩
       ·rw[if_neg c5]at H;cases H
     ·rw[if_neg c4]at H;cases H
   · rw [if_neg c1] at H
     have c1b:(rest.toList==([]:List UInt8))=false:=beq_eq_false_iff_ne.mpr c1
     have c1c:(rest.toList !=([]:List UInt8))=true:=by rw[bne,c1b];rfl
     have HI:=ab.mk H;clear H;go_wp2;go_loopg [21] k1 (fun kq g7 wi=> ∃ (x:Int),g7 = .int .i64 x∧ab (bx.l1 kq a0 rest places head places (places.length:Int) x=some r)∧ab (kq≤k1)∧ab (Kd.C (Kd.int .i64) wi A places.length places)∧ab (Below w.heap.size w wi))
     case atStart=>exact⟨0,rfl,HI,⟨Nat.le_refl _⟩,HC,BW⟩
     case round=>
      clear HI HC BW;obtain⟨x,rfl,HA,HK2,HC,BW⟩:=hrel
      cases gk with
      | zero=>exact absurd HA.out (by simp[bx.l1])
      | succ k2=>
       have H:=HA.out;clear HA;simp only[bx.l1]at H
       by_cases c7:x<(places.length:Int)
       · rw [if_pos c7] at H
         have c7b:decide (x<(places.length:Int))=true:=decide_eq_true c7
         by_cases c8:0≤x
         · rw [if_pos c8, if_pos c7] at H
           obtain⟨⟨t1,t2,t3,t4⟩,ht,H⟩:=Option.bind_eq_some_iff.mp H;replace H:=H
           have tc:=fun W=>ah.c k2 a0 (rd places x) t1 t2 t3 t4 W ht
           obtain⟨ad,e0,hx⟩:=Kd.at_int HC.out x c8 c7;cases e0;have c7z:=eq_true c7;have c8z:=eq_true c8;generalize rd places x=pv at H tc hx;have HN:=ab.mk H;clear H
           cases t4 with
           | false=>
            have HN2:ab (bx.l1 k2 a0 rest places head places (places.length:Int) (wrap64 (x+1))=some r):=⟨by have:=HN.out;simpa using this⟩;clear HN;go_wp2_with (go_at_call 115;refine(tc _).mono ?_;rintro e w2 ⟨v,rfl,hR2,hb2⟩);go_roundg k2
            case measure=>have:=HK2.out;omega
            case rel=>exact⟨wrap64 (x+1),rfl,HN2,⟨by have:=HK2.out;omega⟩,⟨Kd.C_below HC.out hb2⟩,⟨bj BW.out BW.out.size hb2⟩⟩
           | true=>
            by_cases c9:t1.toList=rest.toList
            · have c9b : (t1.toList == rest.toList) = true := beq_iff_eq.mpr c9
              have HE:=HN.out;rw[if_pos rfl,if_pos c9]at HE;clear HN
              by_cases g3:a0.size+head.size≤9223372036854775807
              · rw [if_pos g3] at HE
                have g8:=eq_true g3;have g9:(9223372036854775807<a0.size+head.size)=False:=eq_false (by omega)
                have hcv0:=fun W:World=>eD (P:=Tryz.prog) (src:=43) (dst:=9) (c:=2) (w:=W.alloc (Obj.cells #[.int .u8 ((wrap64 (192+(wrap64 (Int.tdiv pv 256))))%256),.int .u8 (pv%256)] 5)) (A:=some ⟨W.heap.size,0,none⟩) (n:=2) (xs:=[(wrap64 (192+(wrap64 (Int.tdiv pv 256))))%256,pv%256]) Tryz.underlying43 Tryz.underlying5 Tryz.underlying9 ⟨rfl,by omega,fun _=>⟨_,rfl,fun j hj=>pA W _ _ _ j hj⟩⟩
                replace HE:(if(a0++head).size+(strOfNums [(wrap64 (192+(wrap64 (Int.tdiv pv 256))))%256,pv%256]).size≤9223372036854775807 then some ((a0++head)++strOfNums [(wrap64 (192+(wrap64 (Int.tdiv pv 256))))%256,pv%256])else none)=some r:=HE;generalize strOfNums [(wrap64 (192+(wrap64 (Int.tdiv pv 256))))%256,pv%256]=sb at HE hcv0
                by_cases g2:(a0++head).size+sb.size≤9223372036854775807
                · rw [if_pos g2] at HE
                  rw[ByteArray.size_append]at g2;have j0:=eq_true g2;have j1:(9223372036854775807<a0.size+head.size+sb.size)=False:=eq_false (by omega);obtain rfl:=Option.some.inj HE;clear HE;go_wp2_with (go_at_call 115;refine(tc _).mono ?_;rintro e w2 ⟨v,rfl,hR2,hb2⟩;have hcv:=hcv0 w2);go_ret;exact⟨rfl,bF (bj BW.out BW.out.size hb2) _⟩
                ·rw[if_neg g2]at HE;cases HE
              ·rw[if_neg g3]at HE;cases HE
            · have c9b : (t1.toList == rest.toList) = false := beq_eq_false_iff_ne.mpr c9
              have HN2:ab (bx.l1 k2 a0 rest places head places (places.length:Int) (wrap64 (x+1))=some r):=⟨by have:=HN.out;simpa [c9]using this⟩;clear HN;go_wp2_with (go_at_call 115;refine(tc _).mono ?_;rintro e w2 ⟨v,rfl,hR2,hb2⟩);go_roundg k2
              case measure=>have:=HK2.out;omega
              case rel=>exact⟨wrap64 (x+1),rfl,HN2,⟨by have:=HK2.out;omega⟩,⟨Kd.C_below HC.out hb2⟩,⟨bj BW.out BW.out.size hb2⟩⟩
         ·rw[if_neg c8]at H;cases H
       · rw [if_neg c7] at H
         have c7b:decide (x<(places.length:Int))=false:=decide_eq_false c7;have H2:=H;clear H;obtain⟨⟨lab,lok⟩,hlab,H2⟩:=Option.bind_eq_some_iff.mp H2
         have lc:=fun W=>aw.c k2 rest lab lok W hlab
         by_cases g4:0<(lab.length:Int)
         · replace H2 : (if 0 < (lab.length : Int) then ((some (([(((bn ByteArray.empty lab 0).size : Int)) % 256] : List Int) : List Int)).bind fun g0 => (if (strOfNums g0).size + (bn ByteArray.empty lab 0).size ≤ 9223372036854775807 then (if head.size + ((strOfNums g0) ++ (bn ByteArray.empty lab 0)).size ≤ 9223372036854775807 then ((bo.f k2 rest).bind fun g1 => (bx.l0 k2 a0 g1 places (head ++ ((strOfNums g0) ++ (bn ByteArray.empty lab 0))))) else (none)) else (none))) else (none)) = some r := H2
           rw[if_pos g4]at H2;obtain⟨lab0,hl0⟩:∃ y,y=bn ByteArray.empty lab 0:=⟨_,rfl⟩;rw[← hl0]at H2;replace H2:(if(strOfNums [((lab0.size:Int))%256]).size+lab0.size≤9223372036854775807 then(if head.size+((strOfNums [((lab0.size:Int))%256])++lab0).size≤9223372036854775807 then((bo.f k2 rest).bind fun g1=>(bx.l0 k2 a0 g1 places (head++((strOfNums [((lab0.size:Int))%256])++lab0))))else(none))else(none))=some r:=H2;obtain⟨y,hy⟩:∃ y:List Int,y=[((lab0.size:Int))%256]:=⟨_,rfl⟩;rw[← hy]at H2;have Ny:=ab.mk hy;clear hy
           by_cases g5:(strOfNums y).size+lab0.size≤9223372036854775807
           · rw [if_pos g5, ByteArray.size_append] at H2
             by_cases g6:head.size+((strOfNums y).size+lab0.size)≤9223372036854775807
             · rw [if_pos g6] at H2
               obtain⟨par,hpar,H2⟩:=Option.bind_eq_some_iff.mp H2
               have pc:=fun W=>bo.c k2 rest par W hpar
               have HN:=ab.mk H2;clear H2;have j2:=eq_true g5;have j3:(9223372036854775807<(strOfNums y).size+lab0.size)=False:=eq_false (by omega);have j4:=eq_true g6;have j5:(9223372036854775807<head.size+((strOfNums y).size+lab0.size))=False:=eq_false (by omega);have j6:=eq_true (show 0<lab.length by omega);have HL0:=ab.mk hl0;clear hl0;go_wp2_with (go_at_call 171;refine(lc _).mono ?_;rintro e w2 ⟨v,rfl,hR2,hb2⟩;obtain⟨A2,cL,rfl⟩:=Kd.R_slice hR2);obtain⟨ad,e0,hx⟩:=Kd.at_string (Kd.R_reads' hR2).2.2 0 (Int.le_refl 0) g4;cases e0;rw[← HL0.out]at hx
               replace hx:w2.cell? ad=some (.string lab0):=by have:=hx;rwa [show((0:Int)).toNat=0 from rfl,Addr.add_zero']at this
               have HC3:=ab.mk (Kd.C_below HC.out hb2);have BW3:=ab.mk (bj BW.out BW.out.size hb2);clear hR2 hb2;have BW3:=ab.mk (bp BW3.out);have HC3:=ab.mk (Kd.C_below HC3.out (bp (Below.refl _ _)));refine gl (n:=14) (S:=fun w'=>w'.cell? ad=some (.string lab0)) (ds:=[]) #[false,false,false,false,false,false,false,false,false,false,false,false,false,false] (by kernel_rfl) rfl rfl (hx) (fun hHeld=>?_);generalize hw3:w2.drew=w3 at BW3 HC3 hx hHeld ⊢
               refine dE (i:=0) (N:=some 57) (v:=?_) (a':=?_) #[true,false,false,false,false,false,false,false,false,false,false,false,false,false] rfl rfl (by kernel_rfl) (fun _ _ _ h=>h) (Or.inl ⟨by rfl,?_⟩) ?_ ?_
               rotate_left
               · intro w'
                 go_simp
                 with_reducible rfl
               rotate_left
               · simp only [Act.put, List.setIfInBounds_toArray, List.set_cons_zero, List.set_cons_succ, bu, bI]
                 rfl
               refine dE (i:=1) (N:=some 58) (v:=?_) (a':=?_) #[true,true,false,false,false,false,false,false,false,false,false,false,false,false] rfl rfl (by kernel_rfl) (fun _ _ _ h=>h) (Or.inl ⟨by rfl,?_⟩) ?_ ?_
               rotate_left
               · intro w'
                 go_simp
                 with_reducible rfl
               rotate_left
               · simp only [Act.put, List.setIfInBounds_toArray, List.set_cons_zero, List.set_cons_succ, bu, bI]
                 rfl
               refine dE (i:=2) (N:=some 59) (v:=?_) (a':=?_) #[true,true,true,false,false,false,false,false,false,false,false,false,false,false] rfl rfl (by kernel_rfl) (fun _ _ _ h=>h) (Or.inl ⟨by rfl,?_⟩) ?_ ?_
               rotate_left
               · intro w'
                 go_simp
                 with_reducible rfl
               rotate_left
               · simp only [Act.put, List.setIfInBounds_toArray, List.set_cons_zero, List.set_cons_succ, bu, bI]
                 rfl
               refine dE (i:=8) (N:=some 65) (v:=?_) (a':=?_) #[true,true,true,false,false,false,false,false,true,false,false,false,false,false] rfl rfl (by kernel_rfl) (fun _ _ _ h=>h) (Or.inl ⟨by rfl,?_⟩) ?_ ?_
               rotate_left
               · intro w'
                 go_simp
                 with_reducible rfl
               rotate_left
               · simp only [Act.put, List.setIfInBounds_toArray, List.set_cons_zero, List.set_cons_succ, bu, bI]
                 rfl
               refine dE (i:=9) (N:=some 66) (v:=?_) (a':=?_) #[true,true,true,false,false,false,false,false,true,true,false,false,false,false] rfl rfl (by kernel_rfl) (fun _ _ _ h=>h) (Or.inl ⟨by rfl,?_⟩) ?_ ?_
               rotate_left
               · intro w'
                 go_simp
                 with_reducible rfl
               rotate_left
               · simp only [Act.put, List.setIfInBounds_toArray, List.set_cons_zero, List.set_cons_succ, bu, bI]
                 rfl
               refine take_ (i:=3) (N:=some 60) (v:=?_) (a':=?_) #[true,true,true,true,false,false,false,false,true,true,false,false,false,false] rfl rfl (by kernel_rfl) (fun _ _ _ h=>h) (Or.inl ⟨by rfl,?_⟩) hHeld ?_ ?_
               rotate_left
               · intro w' s0
                 go_simp
                 with_reducible rfl
               rotate_left
               · simp only [Act.put, List.setIfInBounds_toArray, List.set_cons_zero, List.set_cons_succ, bu, bI]
                 rfl
               refine dE (i:=4) (N:=some 61) (v:=?_) (a':=?_) #[true,true,true,true,true,false,false,false,true,true,false,false,false,false] rfl rfl (by kernel_rfl) (fun _ _ _ h=>h) (Or.inl ⟨by rfl,?_⟩) ?_ ?_
               rotate_left
               · intro w'
                 go_simp
                 with_reducible rfl
               rotate_left
               · simp only [Act.put, List.setIfInBounds_toArray, List.set_cons_zero, List.set_cons_succ, bu, bI]
                 rfl
               refine dE (i:=5) (N:=some 62) (v:=?_) (a':=?_) #[true,true,true,true,true,true,false,false,true,true,false,false,false,false] rfl rfl (by kernel_rfl) (fun _ _ _ h=>h) (Or.inl ⟨by rfl,?_⟩) ?_ ?_
               rotate_left
               · intro w'
                 go_simp
                 with_reducible rfl
               rotate_left
               · simp only [Act.put, List.setIfInBounds_toArray, List.set_cons_zero, List.set_cons_succ, bu, bI]
                 rfl
               refine take_ (i:=10) (N:=some 67) (v:=?_) (a':=?_) #[true,true,true,true,true,true,false,false,true,true,true,false,false,false] rfl rfl (by kernel_rfl) (fun _ _ _ h=>h) (Or.inl ⟨by rfl,?_⟩) hHeld ?_ ?_
               rotate_left
               · intro w' s0
                 go_simp
                 with_reducible rfl
               rotate_left
               · simp only [Act.put, List.setIfInBounds_toArray, List.set_cons_zero, List.set_cons_succ, bu, bI]
                 rfl
               refine lN (i:=6) (N:=some 63) #[true,true,true,true,true,true,true,false,true,true,true,false,false,false] rfl rfl (by kernel_rfl) (by decide) (fun K hK=>?_)
               refine Kd.R_lit_step (Kd.int .u8) _ 5 ?hg (N:=63) ?hd (xs:=([((lab0.size:Int))%256]:List Int)) (inner:=[.int .u8 (((lab0.size:Int))%256)]) (ok:=fun _=>True) (okp:=fun _=>True) ?hr ?hp (fun _ hk=>hk) trivial (Below.refl _ _) (Nat.le_refl _) (by simp) ?_;(case hd=>rfl);(case hg=>rfl);(case hr=>first|(go_simp;done)|(go_simp;rfl));(case hp=>exact(br.one (show Kd.M (Kd.int .u8) _ _ _ (((lab0.size:Int))%256) [.int .u8 (((lab0.size:Int))%256)]from rfl) (br.none _ _)))
               intro vL wL hoL hb hg_ hnew_;have HS0_:=(hb.cell (World.block_lt_of_cell? _ _ (hHeld))).trans (hHeld)
               (first|rw[← Ny.out]at hoL|(simp only[Int.reduceToNat]at hoL;rw[← Ny.out]at hoL));have HLIT:=ab.mk hoL
               have n4_:=ab.mk (aa BW3.out hb);clear BW3;have BW3:=n4_;have n5_:=ab.mk (Kd.C_below HC3.out hb);clear HC3;have HC3:=n5_;clear n4_ n5_ hg_ hnew_ hb hoL;refine hK.out _ _ (HS0_) (fun hHeld=>?_);clear hK K
               refine fi (a':=?_) ?_ ?_
               rotate_left
               · show Act.put _ (some 63) _ = _
                 simp only[Act.put,List.setIfInBounds_toArray,List.set_cons_zero,List.set_cons_succ,bu,bI];rfl
               refine lN (i:=7) (N:=some 64) #[true,true,true,true,true,true,true,true,true,true,true,false,false,false] rfl rfl (by kernel_rfl) (by decide) (fun K hK=>?_);have hcvL:=ea (P:=Tryz.prog) Tryz.underlying43 Tryz.underlying5 Tryz.underlying9 (Kd.own_of_R HLIT.out)
               refine iV (w1:=?_) (v:=?_) (by rfl) rfl ?_ ?_
               rotate_left 2
               · go_simp
                 constructor
                 ·rfl
                 ·rfl
               clear hcvL;refine hK.out _ _ (hHeld) (fun hHeld=>?_);clear hK K
               refine fi (a':=?_) ?_ ?_
               rotate_left
               · show Act.put _ (some 64) _ = _
                 simp only[Act.put,List.setIfInBounds_toArray,List.set_cons_zero,List.set_cons_succ,bu,bI];rfl
               refine dE (i:=11) (N:=some 68) (v:=?_) (a':=?_) #[true,true,true,true,true,true,true,true,true,true,true,true,false,false] rfl rfl (by kernel_rfl) (fun _ _ _ h=>h) (Or.inl ⟨by rfl,?_⟩) ?_ ?_
               rotate_left
               · intro w'
                 go_simp
                 with_reducible rfl
               rotate_left
               · simp only [Act.put, List.setIfInBounds_toArray, List.set_cons_zero, List.set_cons_succ, bu, bI]
                 rfl
               refine dE (i:=12) (N:=some 69) (v:=?_) (a':=?_) #[true,true,true,true,true,true,true,true,true,true,true,true,true,false] rfl rfl (by kernel_rfl) (fun _ _ _ h=>h) (Or.inl ⟨by rfl,?_⟩) ?_ ?_
               rotate_left
               · intro w'
                 go_simp
                 with_reducible rfl
               rotate_left
               · simp only [Act.put, List.setIfInBounds_toArray, List.set_cons_zero, List.set_cons_succ, bu, bI]
                 rfl
               refine dE (i:=13) (N:=some 6) (v:=?_) (a':=?_) #[true,true,true,true,true,true,true,true,true,true,true,true,true,true] rfl rfl (by kernel_rfl) (fun _ _ _ h=>h) (Or.inl ⟨by rfl,?_⟩) ?_ ?_
               rotate_left
               · intro w'
                 go_simp
                 with_reducible rfl
               rotate_left
               · simp only [Act.put, List.setIfInBounds_toArray, List.set_cons_zero, List.set_cons_succ, bu, bI]
                 rfl
               refine dZ (by kernel_rfl) ?_
               go_wp2_with (go_at_call 238;refine(pc _).mono ?_;rintro e w5_ ⟨rfl,⟨nd5,rfl⟩⟩);have bdn:=bv (Below.refl wL.heap.size wL) nd5;go_roundg k2
               case measure=>have:=HK1.out;have:=HK2.out;omega
               case rel=>exact⟨par,head++(strOfNums y++lab0),rfl,rfl,HN,⟨by have:=HK1.out;have:=HK2.out;omega⟩,⟨Kd.C_below HC3.out bdn⟩,⟨bj BW3.out BW3.out.size bdn⟩⟩
             ·rw[if_neg g6]at H2;cases H2
           ·rw[if_neg g5]at H2;cases H2
         · replace H2 : (if 0 < (lab.length : Int) then _ else none) = some r := H2
           rw[if_neg g4]at H2;cases H2
def dD.f(k:Nat)(a0:Int)(a1:ByteArray)(a2:Int): Option (Int×Bool×Bool×Int×ByteArray×Int×(List (S45))×(List (S45))×Bool):=(bK.f k a0 false false 0 a1 a2 ([]:List (S45)) ([]:List (S45))).bind fun g0=>(if g0=true then(some (a0,false,false,0,a1,a2,([]:List (S45)),([]:List (S45)),true))else(some (0,false,false,0,(⟨#[]⟩:ByteArray),0,([]:List (S45)),([]:List (S45)),false)))
theorem dD.c(k:Nat)(a0:Int)(a1:ByteArray)(a2:Int)(r1:Int)(r2:Bool)(r3:Bool)(r4:Int)(r5:ByteArray)(r6:Int)(r7:List (S45))(r8:List (S45))(r9:Bool)(w:World)(h:dD.f k a0 a1 a2=some (r1,r2,r3,r4,r5,r6,r7,r8,r9)):
 Calls Tryz.prog 166 #[.int .i64 a0,.string a1,.int .i64 a2] w fun e w'=> ∃ v6_ v7_:Value,e = .returned (.tuple #[.agg #[.int .i64 r1,.bool r2,.bool r3,.int .i64 r4,.string r5,.int .i64 r6,v6_,v7_],.bool r9])∧Kd.R k45 45 w' w.heap.size (fun k_=>some k_≠(v7_:Value).ownBlock) v6_ r7∧Kd.R k45 45 w' w.heap.size (fun k_=>some k_≠(v6_:Value).ownBlock) v7_ r8∧Below w.heap.size w w':=by
 have hu62:=Tryz.underlying62;have HB:=a0_ (Below.refl w.heap.size w);have H:=h;clear h;unfold dD.f at H;obtain⟨j0,A4,H⟩:=ob_ H
 by_cases c5:j0=true
 case pos=>
  subst c5;rw[if_pos rfl]at H;simp only[Option.some.injEq,Prod.mk.injEq]at H;obtain⟨rfl,rfl,rfl,rfl,rfl,rfl,rfl,rfl,rfl⟩:=H;go_enter Tryz.func166,Tryz.ntmps166;go_wp2_with (first|((with_reducible refine ax (N:=6) rfl ?_);refine cm 6 #[.int .i64 0,.bool false,.bool false,.int .i64 0,.string (⟨#[]⟩:ByteArray),.int .i64 0,.slice none 0 0,.slice none 0 0] 62 (fun g1 hg w6 hbox hb=>?_);have g0:=a0_ (hbox);have g6:=a0_ (gw_ hg:w.heap.size≤g1);replace HB:=a0_ (aa ay hb);have g8:=g6;clear hb hbox hg)|((with_reducible refine ax (N:=8) rfl ?_);refine cm 8 #[.int .i64 0,.bool false,.bool false,.int .i64 0,.string (⟨#[]⟩:ByteArray),.int .i64 0,.slice none 0 0,.slice none 0 0] 62 (fun g3 hg w7 hbox hb=>?_);have g4:=a0_ (hbox);have g7:=a0_ (gw_ hg (aj aD):w.heap.size≤g3);replace HB:=a0_ (aa aD hb);have g2:=a0_ ((by rw[hg];exact Nat.ne_of_lt (cB (g:=g1) (o:=.cells #[.int .i64 0,.bool false,.bool false,.int .i64 0,.string (⟨#[]⟩:ByteArray),.int .i64 0,.slice none 0 0,.slice none 0 0] 62 (0,0)) (kB_ g0.out)):g1≠g3));have g5:=a0_ ((by rw[hg];exact Nat.ne_of_gt (cB (g:=g1) (o:=.cells #[.int .i64 0,.bool false,.bool false,.int .i64 0,.string (⟨#[]⟩:ByteArray),.int .i64 0,.slice none 0 0,.slice none 0 0] 62 (0,0)) (kB_ g0.out)):g3≠g1));replace g0:=a0_ (bq g0 hb);have g9:=g7;clear hb hbox hg;have hnb8:=g5.out;have hnc8:=g2.out;obtain⟨_,_,_,_,_,_,_,_,_,_,_,_,_,_,_,_⟩:=bT g4.out)|((with_reducible refine gt_ 101 rfl ?_);refine gs_ 14 Tryz.func101 #[.agg #[.int .i64 a0,.bool false,.bool false,.int .i64 0,.string a1,.int .i64 a2,.slice none 0 0,.slice none 0 0]] ?_;(refine(bK.c k a0 false false 0 a1 a2 _ _ ([]:List (S45)) _ _ ([]:List (S45)) true _ ?side1 ?side2 ?side3 ?side4 A4.out).mono ?_);(case side1=>exact Kd.C_nil _ _);(case side2=>exact Nat.le_refl _);(case side3=>exact Kd.C_nil _ _);(case side4=>exact Nat.le_refl _);rintro e j3 ⟨rfl,hb⟩;refine⟨_,rfl,?_⟩;replace g0:=a0_ (b_ (g:=g1) (o:=.cells #[.int .i64 0,.bool false,.bool false,.int .i64 0,.string (⟨#[]⟩:ByteArray),.int .i64 0,.slice none 0 0,.slice none 0 0] 62 (0,0)) (kw g2.out g0.out) hb);replace g4:=a0_ (b_ (g:=g3) (o:=.cells #[.int .i64 a0,.bool false,.bool false,.int .i64 0,.string a1,.int .i64 a2,.slice none 0 0,.slice none 0 0] 62 (0,0)) (fy g4.out) hb);replace HB:=a0_ (aa aD hb);clear hb;obtain⟨_,_,_,_,_,_,_,_,_,_,_,_,_,_,_,_⟩:=bT g4.out;obtain⟨_,_,_,_,_,_,_,_,_,_,_,_,_,_,_,_⟩:=bT g0.out))
  refine bodyPost_ret (dQ rfl _ _ g1 62 #[.int .i64 a0,.bool false,.bool false,.int .i64 0,.string a1,.int .i64 a2,.slice none 0 0,.slice none 0 0] (0,0) _ rfl (fy g0.out) Tryz.underlying62 rfl (by kernel_rfl)) rfl ?_
  exact⟨_,_,rr_,by first|exact Kd.R_nil _ _ _ _ _|exact Kd.N_nil _ _ _ _ _|exact Kd.V_nil _ _ _ _ _|exact Kd.Q_nil _ _ _ _ _|exact Kd.S_nil _ _ _ _ _,by first|exact Kd.R_nil _ _ _ _ _|exact Kd.N_nil _ _ _ _ _|exact Kd.V_nil _ _ _ _ _|exact Kd.Q_nil _ _ _ _ _|exact Kd.S_nil _ _ _ _ _,aD⟩
 replace c5:=Bool.eq_false_iff.mpr c5;subst c5;rw[if_neg ff_]at H;simp only[Option.some.injEq,Prod.mk.injEq]at H;obtain⟨rfl,rfl,rfl,rfl,rfl,rfl,rfl,rfl,rfl⟩:=H;go_enter Tryz.func166,Tryz.ntmps166;go_wp2_with (first|((with_reducible refine ax (N:=6) rfl ?_);refine cm 6 #[.int .i64 0,.bool false,.bool false,.int .i64 0,.string (⟨#[]⟩:ByteArray),.int .i64 0,.slice none 0 0,.slice none 0 0] 62 (fun g1 hg j4 hbox hb=>?_);have g0:=a0_ (hbox);have g6:=a0_ (gw_ hg:w.heap.size≤g1);replace HB:=a0_ (aa ay hb);have g8:=g6;clear hb hbox hg)|((with_reducible refine ax (N:=8) rfl ?_);refine cm 8 #[.int .i64 0,.bool false,.bool false,.int .i64 0,.string (⟨#[]⟩:ByteArray),.int .i64 0,.slice none 0 0,.slice none 0 0] 62 (fun g3 hg j5 hbox hb=>?_);have g4:=a0_ (hbox);have g7:=a0_ (gw_ hg (aj aD):w.heap.size≤g3);replace HB:=a0_ (aa aD hb);have g2:=a0_ ((by rw[hg];exact Nat.ne_of_lt (cB (g:=g1) (o:=.cells #[.int .i64 0,.bool false,.bool false,.int .i64 0,.string (⟨#[]⟩:ByteArray),.int .i64 0,.slice none 0 0,.slice none 0 0] 62 (0,0)) (kB_ g0.out)):g1≠g3));have g5:=a0_ ((by rw[hg];exact Nat.ne_of_gt (cB (g:=g1) (o:=.cells #[.int .i64 0,.bool false,.bool false,.int .i64 0,.string (⟨#[]⟩:ByteArray),.int .i64 0,.slice none 0 0,.slice none 0 0] 62 (0,0)) (kB_ g0.out)):g3≠g1));replace g0:=a0_ (bq g0 hb);have g9:=g7;clear hb hbox hg;have j1:=g5.out;have j2:=g2.out;obtain⟨_,_,_,_,_,_,_,_,_,_,_,_,_,_,_,_⟩:=bT g4.out)|((with_reducible refine gt_ 101 rfl ?_);refine gs_ 14 Tryz.func101 #[.agg #[.int .i64 a0,.bool false,.bool false,.int .i64 0,.string a1,.int .i64 a2,.slice none 0 0,.slice none 0 0]] ?_;(refine(bK.c k a0 false false 0 a1 a2 _ _ ([]:List (S45)) _ _ ([]:List (S45)) false _ ?side1 ?side2 ?side3 ?side4 A4.out).mono ?_);(case side1=>exact Kd.C_nil _ _);(case side2=>exact Nat.le_refl _);(case side3=>exact Kd.C_nil _ _);(case side4=>exact Nat.le_refl _);rintro e j6 ⟨rfl,hb⟩;refine⟨_,rfl,?_⟩;replace g0:=a0_ (b_ (g:=g1) (o:=.cells #[.int .i64 0,.bool false,.bool false,.int .i64 0,.string (⟨#[]⟩:ByteArray),.int .i64 0,.slice none 0 0,.slice none 0 0] 62 (0,0)) (kw g2.out g0.out) hb);replace g4:=a0_ (b_ (g:=g3) (o:=.cells #[.int .i64 a0,.bool false,.bool false,.int .i64 0,.string a1,.int .i64 a2,.slice none 0 0,.slice none 0 0] 62 (0,0)) (fy g4.out) hb);replace HB:=a0_ (aa aD hb);clear hb;obtain⟨_,_,_,_,_,_,_,_,_,_,_,_,_,_,_,_⟩:=bT g0.out))
 refine bodyPost_ret (dQ rfl _ _ g1 62 #[.int .i64 0,.bool false,.bool false,.int .i64 0,.string (⟨#[]⟩:ByteArray),.int .i64 0,.slice none 0 0,.slice none 0 0] (0,0) _ rfl (fy g0.out) Tryz.underlying62 rfl (by kernel_rfl)) rfl ?_
 exact⟨_,_,rr_,by first|exact Kd.R_nil _ _ _ _ _|exact Kd.N_nil _ _ _ _ _|exact Kd.V_nil _ _ _ _ _|exact Kd.Q_nil _ _ _ _ _|exact Kd.S_nil _ _ _ _ _,by first|exact Kd.R_nil _ _ _ _ _|exact Kd.N_nil _ _ _ _ _|exact Kd.V_nil _ _ _ _ _|exact Kd.Q_nil _ _ _ _ _|exact Kd.S_nil _ _ _ _ _,aD⟩
def cq.j0: Nat→Int→List (S45)→List (S45)→Bool→Int→Bool→Bool→Int→ByteArray→Int→List (S45)→List (S45)→Option (Int×Bool×Bool×Int×ByteArray×Int×(List (S45))×(List (S45))×Bool)
 | 0,_,_,_,_,_,_,_,_,_,_,_,_=>none
 | k+1,x1,x2,x3,j4,g0,g9,g1,j1,g2,g3,j2,j3=>if j4=true then(some (0,false,false,0,(⟨#[]⟩:ByteArray),0,([]:List (S45)),([]:List (S45)),false))else((some (([]:List (S45)):List (S45))).bind fun g4=>(if g4.length+x2.length<2932031007402 then((some (g4++x2:List (S45))).bind fun g5=>((some (([]:List (S45)):List (S45))).bind fun g6=>(if g6.length+x3.length<2932031007402 then((some (g6++x3:List (S45))).bind fun g7=>((bK.f k g0 true g1 x1 g2 g3 g5 g7).bind fun g8=>(if g8=true then(some (g0,true,g1,x1,g2,g3,g5,g7,true))else(some (0,false,false,0,(⟨#[]⟩:ByteArray),0,([]:List (S45)),([]:List (S45)),false)))))else(none))))else(none)))
def cq.f(k:Nat)(a0_0:Int)(a0_1:Bool)(a0_2:Bool)(a0_3:Int)(a0_4:ByteArray)(a0_5:Int)(l0_6:List (S45))(l0_7:List (S45))(a1:Int)(l2:List (S45))(l3:List (S45)): Option (Int×Bool×Bool×Int×ByteArray×Int×(List (S45))×(List (S45))×Bool):=(bK.f k a0_0 a0_1 a0_2 a0_3 a0_4 a0_5 l0_6 l0_7).bind fun g0=>(if g0=true then(cq.j0 k a1 l2 l3 a0_1 a0_0 a0_1 a0_2 a0_3 a0_4 a0_5 l0_6 l0_7)else(cq.j0 k a1 l2 l3 true a0_0 a0_1 a0_2 a0_3 a0_4 a0_5 l0_6 l0_7))
theorem cq.c(k:Nat)(a0_0:Int)(a0_1:Bool)(a0_2:Bool)(a0_3:Int)(a0_4:ByteArray)(a0_5:Int)(A0_6:Option Addr)(c0_6:Nat)(l0_6:List (S45))(A0_7:Option Addr)(c0_7:Nat)(l0_7:List (S45))(a1:Int)(A2:Option Addr)(c2:Nat)(l2:List (S45))(A3:Option Addr)(c3:Nat)(l3:List (S45))(r1:Int)(r2:Bool)(r3:Bool)(r4:Int)(r5:ByteArray)(r6:Int)(r7:List (S45))(r8:List (S45))(r9:Bool)(w:World)(hr0_6:Kd.C k45 w A0_6 l0_6.length l0_6)(hc0_6:l0_6.length≤c0_6)(hr0_7:Kd.C k45 w A0_7 l0_7.length l0_7)(hc0_7:l0_7.length≤c0_7)(hr2:Kd.C k45 w A2 l2.length l2)(hc2:l2.length≤c2)(hr3:Kd.C k45 w A3 l3.length l3)(hc3:l3.length≤c3)(h:cq.f k a0_0 a0_1 a0_2 a0_3 a0_4 a0_5 l0_6 l0_7 a1 l2 l3=some (r1,r2,r3,r4,r5,r6,r7,r8,r9)):
 Calls Tryz.prog 167 #[.agg #[.int .i64 a0_0,.bool a0_1,.bool a0_2,.int .i64 a0_3,.string a0_4,.int .i64 a0_5,.slice A0_6 l0_6.length c0_6,.slice A0_7 l0_7.length c0_7],.int .i64 a1,.slice A2 l2.length c2,.slice A3 l3.length c3] w fun e w'=> ∃ v6_ v7_:Value,e = .returned (.tuple #[.agg #[.int .i64 r1,.bool r2,.bool r3,.int .i64 r4,.string r5,.int .i64 r6,v6_,v7_],.bool r9])∧Kd.R k45 45 w' w.heap.size (fun k_=>some k_≠(v7_:Value).ownBlock) v6_ r7∧Kd.R k45 45 w' w.heap.size (fun k_=>some k_≠(v6_:Value).ownBlock) v7_ r8∧Below w.heap.size w w':=by
 have hu62:=Tryz.underlying62;have HR0_6:=a0_ hr0_6;have HC0_6:=a0_ hc0_6;clear hr0_6 hc0_6;have HR0_7:=a0_ hr0_7;have HC0_7:=a0_ hc0_7;clear hr0_7 hc0_7;have HR2:=a0_ hr2;have HC2:=a0_ hc2;clear hr2 hc2;have HR3:=a0_ hr3;have HC3:=a0_ hc3;clear hr3 hc3;have HB:=a0_ (Below.refl w.heap.size w);have H:=h;clear h;unfold cq.f at H;have HC5:=a0_ H;clear H;go_enter Tryz.func167,Tryz.ntmps167;go_upto_region 1 with(first|((with_reducible refine ax (N:=4) rfl ?_);refine cm 4 #[.int .i64 a0_0,.bool a0_1,.bool a0_2,.int .i64 a0_3,.string a0_4,.int .i64 a0_5,.slice A0_6 l0_6.length c0_6,.slice A0_7 l0_7.length c0_7] 62 (fun g2 hg w6 hbox hb=>?_);have g0:=a0_ (hbox);have d6:=a0_ (gw_ hg:w.heap.size≤g2);replace HB:=a0_ (aa ay hb);have z7:=d6;clear hb hbox hg)|((with_reducible refine ax (N:=8) rfl ?_);refine cm 8 #[.int .i64 0,.bool false,.bool false,.int .i64 0,.string (⟨#[]⟩:ByteArray),.int .i64 0,.slice none 0 0,.slice none 0 0] 62 (fun g3 hg w7 hbox hb=>?_);have g1:=a0_ (hbox);have d7:=a0_ (gw_ hg (aj aD):w.heap.size≤g3);replace HB:=a0_ (aa aD hb);have g9:=a0_ ((by rw[hg];exact Nat.ne_of_lt (cB (g:=g2) (o:=.cells #[.int .i64 a0_0,.bool a0_1,.bool a0_2,.int .i64 a0_3,.string a0_4,.int .i64 a0_5,.slice A0_6 l0_6.length c0_6,.slice A0_7 l0_7.length c0_7] 62 (0,0)) (kB_ g0.out)):g2≠g3));have g7:=a0_ ((by rw[hg];exact Nat.ne_of_gt (cB (g:=g2) (o:=.cells #[.int .i64 a0_0,.bool a0_1,.bool a0_2,.int .i64 a0_3,.string a0_4,.int .i64 a0_5,.slice A0_6 l0_6.length c0_6,.slice A0_7 l0_7.length c0_7] 62 (0,0)) (kB_ g0.out)):g3≠g2));replace g0:=a0_ (bq g0 hb);have z8:=d7;clear hb hbox hg))
 (try simp only[Act.put,List.setIfInBounds_toArray,List.set_cons_zero,List.set_cons_succ])
 go_cut [16] (fun z9 wc=> ∃ (kq:Nat) (y5:Bool),z9 = .bool y5∧ab (cq.j0 kq a1 l2 l3 y5 a0_0 a0_1 a0_2 a0_3 a0_4 a0_5 l0_6 l0_7=some (r1,r2,r3,r4,r5,r6,r7,r8,r9))∧ab (kq≤k)∧ab (wc.heap[g2]? = some (.cells #[.int .i64 a0_0,.bool a0_1,.bool a0_2,.int .i64 a0_3,.string a0_4,.int .i64 a0_5,(.slice A0_6 l0_6.length c0_6),(.slice A0_7 l0_7.length c0_7)] 62 (0,0)))∧ab (wc.heap[g3]? = some (.cells #[.int .i64 0,.bool false,.bool false,.int .i64 0,.string (⟨#[]⟩:ByteArray),.int .i64 0,(.slice none 0 0),(.slice none 0 0)] 62 (0,0)))∧ab (Below w.heap.size w wc))
 case first=>
  have H:=HC5.out;clear HC5;obtain⟨d8,A8,H⟩:=ob_ H
  by_cases c9:d8=true
  case pos=>
   subst c9;rw[if_pos rfl]at H;have H':=a0_ H;clear H;have f0:=g9.out;have f1:=g7.out;obtain⟨_,_,_,_,_,_,_,_,_,_,_,_,_,_,_,_⟩:=bT g0.out;go_wp2_with (first|((with_reducible refine gt_ 101 rfl ?_);refine gs_ 11 Tryz.func101 #[.agg #[.int .i64 a0_0,.bool a0_1,.bool a0_2,.int .i64 a0_3,.string a0_4,.int .i64 a0_5,.slice A0_6 l0_6.length c0_6,.slice A0_7 l0_7.length c0_7]] ?_;(with_reducible refine(bK.c k a0_0 a0_1 a0_2 a0_3 a0_4 a0_5 _ _ l0_6 _ _ l0_7 true _ ?side1 ?side2 ?side3 ?side4 A8.out).mono ?_);(case side1=>exact kC_ HR0_6.out HB.out);(case side2=>exact HC0_6.out);(case side3=>exact kC_ HR0_7.out HB.out);(case side4=>exact HC0_7.out);rintro e T0 ⟨rfl,hb⟩;refine⟨_,rfl,?_⟩;replace g0:=a0_ (bq g0 hb);replace g1:=a0_ (bq g1 hb);replace HB:=a0_ (aa aD hb);clear hb;obtain⟨_,_,_,_,_,_,_,_,_,_,_,_,_,_,_,_⟩:=bT g0.out));go_meet
   case rel=>exact⟨_,(a0_1),rs_,H',⟨by first|omega|exact Nat.le_refl _⟩,⟨bz_⟩,⟨bz_⟩,⟨aD⟩⟩
  replace c9:=Bool.eq_false_iff.mpr c9;subst c9;rw[if_neg ff_]at H;have H':=a0_ H;clear H;have f2:=g9.out;have f3:=g7.out;obtain⟨_,_,_,_,_,_,_,_,_,_,_,_,_,_,_,_⟩:=bT g0.out;go_wp2_with (first|((with_reducible refine gt_ 101 rfl ?_);refine gs_ 11 Tryz.func101 #[.agg #[.int .i64 a0_0,.bool a0_1,.bool a0_2,.int .i64 a0_3,.string a0_4,.int .i64 a0_5,.slice A0_6 l0_6.length c0_6,.slice A0_7 l0_7.length c0_7]] ?_;(with_reducible refine(bK.c k a0_0 a0_1 a0_2 a0_3 a0_4 a0_5 _ _ l0_6 _ _ l0_7 false _ ?side1 ?side2 ?side3 ?side4 A8.out).mono ?_);(case side1=>exact kC_ HR0_6.out HB.out);(case side2=>exact HC0_6.out);(case side3=>exact kC_ HR0_7.out HB.out);(case side4=>exact HC0_7.out);rintro e T1 ⟨rfl,hb⟩;refine⟨_,rfl,?_⟩;replace g0:=a0_ (bq g0 hb);replace g1:=a0_ (bq g1 hb);replace HB:=a0_ (aa aD hb);clear hb));go_meet
  case rel=>exact⟨_,(true),rs_,H',⟨by first|omega|exact Nat.le_refl _⟩,⟨bz_⟩,⟨bz_⟩,⟨aD⟩⟩
 case rest=>
  clear HC5
  try clear c2
  try clear c3
  obtain⟨kq,y5,rfl,HA,HJ4,g0,g1,HB⟩:=hcut
  cases kq with
  | zero=>exact absurd HA.out (by simp[cq.j0])
  | succ kj4=>
   have H:=HA.out;clear HA;simp only[cq.j0]at H
   by_cases b8:y5=true
   case pos=>
    subst b8;rw[if_pos rfl]at H;simp only[Option.some.injEq,Prod.mk.injEq]at H;obtain⟨rfl,rfl,rfl,rfl,rfl,rfl,rfl,rfl,rfl⟩:=H;have f4:=g7.out;have f5:=g9.out;obtain⟨_,_,_,_,_,_,_,_,_,_,_,_,_,_,_,_⟩:=bT g1.out;go_wp2
    refine bodyPost_ret (dQ rfl _ _ g3 62 #[.int .i64 0,.bool false,.bool false,.int .i64 0,.string (⟨#[]⟩:ByteArray),.int .i64 0,.slice none 0 0,.slice none 0 0] (0,0) _ rfl (fy g1.out) Tryz.underlying62 rfl (by kernel_rfl)) rfl ?_
    exact⟨_,_,rr_,by first|exact Kd.R_nil _ _ _ _ _|exact Kd.N_nil _ _ _ _ _|exact Kd.V_nil _ _ _ _ _|exact Kd.Q_nil _ _ _ _ _|exact Kd.S_nil _ _ _ _ _,by first|exact Kd.R_nil _ _ _ _ _|exact Kd.N_nil _ _ _ _ _|exact Kd.V_nil _ _ _ _ _|exact Kd.Q_nil _ _ _ _ _|exact Kd.S_nil _ _ _ _ _,aD⟩
   replace b8:=Bool.eq_false_iff.mpr b8;subst b8;rw[if_neg ff_]at H;obtain⟨y6,y8⟩:∃ y_:List (S45),y_=(([]:List (S45))):=⟨_,rfl⟩;replace H:=by_ y8 H;have y1:=a0_ y8;clear y8
   by_cases b9:y6.length+l2.length<2932031007402
   case neg=>
    rw[if_neg b9]at H;exact absurd H (by simp)
   rw[if_pos b9]at H;have d0:=a0_ b9;clear b9;obtain⟨g5,y9⟩:∃ y_:List (S45),y_=(y6++l2):=⟨_,rfl⟩;replace H:=by_ y9 H;have b6:=a0_ y9;clear y9;obtain⟨y7,b0⟩:∃ y_:List (S45),y_=(([]:List (S45))):=⟨_,rfl⟩;replace H:=by_ b0 H;have y2:=a0_ b0;clear b0
   by_cases d3:y7.length+l3.length<2932031007402
   case neg=>
    rw[if_neg d3]at H;exact absurd H (by simp)
   rw[if_pos d3]at H;have d4:=a0_ d3;clear d3;obtain⟨g6,b1⟩:∃ y_:List (S45),y_=(y7++l3):=⟨_,rfl⟩;replace H:=by_ b1 H;have b7:=a0_ b1;clear b1;obtain⟨d9,z2,H⟩:=ob_ H
   by_cases d5:d9=true
   case pos=>
    subst d5;rw[if_pos rfl]at H;simp only[Option.some.injEq,Prod.mk.injEq]at H;obtain⟨rfl,rfl,rfl,rfl,rfl,rfl,rfl,rfl,rfl⟩:=H;have f6:=g9.out;have f7:=g7.out;obtain⟨_,_,_,_,_,_,_,_,_,_,_,_,_,_,_,_⟩:=bT g0.out;go_wp2_with (first|((with_reducible refine ax (N:=21) rfl ?_);refine Kd.R_lit k45 _ 45 ?hg (N:=21) ?hd (xs:=([]:List (S45))) (inner:=[]) (ok:=fun _=>True) (okp:=fun _=>True) ?hr ?hp (fun _ hk=>hk) trivial (Below.refl _ _) (Nat.le_refl _) (by simp) ?_;(case hd=>rfl);(case hg=>rfl);(case hr=>first|(go_simp;done)|(go_simp;rfl));(case hp=>exact(br.none _ _));intro b4 T2 b2 hb hg_ hnew_;clear hg_ hnew_;(first|rw[← y1.out]at b2|(simp only[Int.reduceToNat]at b2;rw[← y1.out]at b2));have j1:=a0_ (Kd.R_lower b2 (aj aD));replace g0:=a0_ (b_ (g:=g2) (o:=.cells #[.int .i64 a0_0,.bool true,.bool a0_2,.int .i64 a1,.string a0_4,.int .i64 a0_5,.slice A0_6 l0_6.length c0_6,.slice A0_7 l0_7.length c0_7] 62 (0,0)) (by(with_reducible repeat(first|refine aI ?_ _|refine az ?_|refine aE ?_ _));refine bE (cs:=#[.int .i64 a0_0,.bool true,.bool a0_2,.int .i64 a0_3,.string a0_4,.int .i64 a0_5,.slice A0_6 l0_6.length c0_6,.slice A0_7 l0_7.length c0_7]) ?_ 3 _ rfl;(with_reducible repeat(first|refine aI ?_ _|refine az ?_|refine aE ?_ _));refine bE (cs:=#[.int .i64 a0_0,.bool a0_1,.bool a0_2,.int .i64 a0_3,.string a0_4,.int .i64 a0_5,.slice A0_6 l0_6.length c0_6,.slice A0_7 l0_7.length c0_7]) ?_ 1 _ rfl;(with_reducible repeat(first|refine aI ?_ _|refine az ?_|refine aE ?_ _));exact g0.out) hb);replace g1:=a0_ (b_ (g:=g3) (o:=.cells #[.int .i64 0,.bool false,.bool false,.int .i64 0,.string (⟨#[]⟩:ByteArray),.int .i64 0,.slice none 0 0,.slice none 0 0] 62 (0,0)) (iW g7.out g1.out) hb);replace HB:=a0_ (aa aD hb);clear hb b2)|((with_reducible refine bz (b:=.append) (xs:=#[.tmp 21,.tmp 22]) rfl ?_);at_builtin;refine Kd.R_append_rows k45 (w0:=w) w.heap.size rfl (.tmp 21) (.tmp 22) 27 45 (.agg #[(.string ⟨#[]⟩),(.int .i64 0),(.int .i64 0),(.string ⟨#[]⟩)]) 48 rfl Tryz.underlying27 dz rfl (by decide) (by omega) b4 y6 l2 _ _ _ (fun _=>True) (fun _=>False) rfl rfl ?aO ?aR (fun _ _ h=>h) (fun _ h=>h.elim) ?aF ?aB ?aS ?aL ?_;(case aR=>repeat(first|exact(Kd.C_below HR2.out HB.out)|(with_reducible refine Kd.C_alloc ?_ _)|(with_reducible refine Kd.C_drewN ?_ _)|(with_reducible refine Kd.C_drew ?_)));(case aB=>exact aD);(case aF=>exact(fun _ _=>trivial));(case aO=>exact(kR_ j1.out));(case aS=>exact(aj aD));(case aL=>have:=d0.out;omega);intro z0 T3 ho hb hg hat;rw[← b6.out]at ho;replace g0:=a0_ (cp (g:=g2) (o:=.cells #[.int .i64 a0_0,.bool true,.bool a0_2,.int .i64 a1,.string a0_4,.int .i64 a0_5,.slice A0_6 l0_6.length c0_6,.slice A0_7 l0_7.length c0_7] 62 (0,0)) (kB_ g0.out) hg (Kd.R_ne j1.out g0.out (by decide)));replace g1:=a0_ (cp (g:=g3) (o:=.cells #[.int .i64 0,.bool false,.bool false,.int .i64 0,.string (⟨#[]⟩:ByteArray),.int .i64 0,.slice none 0 0,.slice none 0 0] 62 (0,0)) (kB_ g1.out) hg (Kd.R_ne j1.out g1.out (by decide)));replace HB:=a0_ (hb);have g4:=a0_ (ho);clear j1;clear ho hb hg hat;obtain⟨j4,j3,z3⟩:=Kd.R_slice g4.out;subst z3;obtain⟨_,_,_,_,_,_,_,_,_,_,_,_,_,_,_,_⟩:=bT g0.out)|((with_reducible refine ax (N:=25) rfl ?_);refine Kd.R_lit k45 _ 45 ?hg (N:=25) ?hd (xs:=([]:List (S45))) (inner:=[]) (ok:=fun _=>True) (okp:=fun _=>True) ?hr ?hp (fun _ hk=>hk) trivial (Below.refl _ _) (Nat.le_refl _) (by simp) ?_;(case hd=>rfl);(case hg=>rfl);(case hr=>first|(go_simp;done)|(go_simp;rfl));(case hp=>exact(br.none _ _));intro b5 T4 y3 hb hg_ hnew_;clear hg_ hnew_;(first|rw[← y2.out]at y3|(simp only[Int.reduceToNat]at y3;rw[← y2.out]at y3));have j2:=a0_ (Kd.R_lower (Kd.R_new' y3 (Kd.R_lt (kR_ (Kd.R_mono (Kd.R_far (p:=⟨g2,6,none⟩) (Kd.R_types g4.out g0.out (by decide)) (fun _ hk=>hk.2) (.slice j4 g5.length j3)) (fun _ h_=>h_.1))))) (aj aD));replace g4:=a0_ (Kd.R_elder' (kR_ (Kd.R_mono (Kd.R_far (p:=⟨g2,6,none⟩) (Kd.R_types g4.out g0.out (by decide)) (fun _ hk=>hk.2) (.slice j4 g5.length j3)) (fun _ h_=>h_.1))) (Kd.R_base y3) hb);replace g1:=a0_ (b_ (g:=g3) (o:=.cells #[.int .i64 0,.bool false,.bool false,.int .i64 0,.string (⟨#[]⟩:ByteArray),.int .i64 0,.slice none 0 0,.slice none 0 0] 62 (0,0)) bz_ hb);replace g0:=a0_ (b_ (g:=g2) (o:=.cells #[.int .i64 a0_0,.bool true,.bool a0_2,.int .i64 a1,.string a0_4,.int .i64 a0_5,.slice j4 g5.length j3,.slice A0_7 l0_7.length c0_7] 62 (0,0)) (by(with_reducible repeat(first|refine aI ?_ _|refine az ?_|refine aE ?_ _));refine bE (cs:=#[.int .i64 a0_0,.bool true,.bool a0_2,.int .i64 a1,.string a0_4,.int .i64 a0_5,.slice A0_6 l0_6.length c0_6,.slice A0_7 l0_7.length c0_7]) ?_ 6 _ rfl;(with_reducible repeat(first|refine aI ?_ _|refine az ?_|refine aE ?_ _));exact g0.out) hb);replace HB:=a0_ (aa aD hb);clear hb y3)|((with_reducible refine bz (b:=.append) (xs:=#[.tmp 25,.tmp 26]) rfl ?_);at_builtin;refine Kd.R_append_rows k45 (w0:=w) w.heap.size rfl (.tmp 25) (.tmp 26) 27 45 (.agg #[(.string ⟨#[]⟩),(.int .i64 0),(.int .i64 0),(.string ⟨#[]⟩)]) 48 rfl Tryz.underlying27 dz rfl (by decide) (by omega) b5 y7 l3 _ _ _ (fun k_=>nw_ k_ j4 g5.length j3) (fun _=>False) rfl rfl ?aO ?aR (fun _ _ h=>h) (fun _ h=>h.elim) ?aF ?aB ?aS ?aL ?_;(case aR=>repeat(first|exact(Kd.C_below HR3.out HB.out)|(with_reducible refine Kd.C_alloc ?_ _)|(with_reducible refine Kd.C_drewN ?_ _)|(with_reducible refine Kd.C_drew ?_)));(case aB=>exact aD);(case aF=>exact(fun k_ hk=>Kd.fresh' (Kd.R_lt (kR_ g4.out)) k_ hk));(case aO=>exact(kR_ (Kd.R_mono j2.out (fun _ hk=>hk.2))));(case aS=>exact(aj aD));(case aL=>have:=d4.out;omega);intro z1 T5 ho hb hg hat;rw[← b7.out]at ho;replace g0:=a0_ (cp (g:=g2) (o:=.cells #[.int .i64 a0_0,.bool true,.bool a0_2,.int .i64 a1,.string a0_4,.int .i64 a0_5,.slice j4 g5.length j3,.slice A0_7 l0_7.length c0_7] 62 (0,0)) (kB_ g0.out) hg (Kd.R_ne j2.out g0.out (by decide)));replace g1:=a0_ (cp (g:=g3) (o:=.cells #[.int .i64 0,.bool false,.bool false,.int .i64 0,.string (⟨#[]⟩:ByteArray),.int .i64 0,.slice none 0 0,.slice none 0 0] 62 (0,0)) (kB_ g1.out) hg (Kd.R_ne j2.out g1.out (by decide)));replace g4:=a0_ (Kd.R_after (ok:=(fun _=>True)) (kR_ g4.out) hg hat);replace HB:=a0_ (hb);have g8:=a0_ (ho);clear j2;clear ho hb hg hat;obtain⟨j6,j5,z4⟩:=Kd.R_slice g8.out;subst z4;obtain⟨_,_,_,_,_,_,_,_,_,_,_,_,_,_,_,_⟩:=bT g0.out)|((with_reducible refine gt_ 101 rfl ?_);refine gs_ 30 Tryz.func101 #[.agg #[.int .i64 a0_0,.bool true,.bool a0_2,.int .i64 a1,.string a0_4,.int .i64 a0_5,.slice j4 g5.length j3,.slice j6 g6.length j5]] ?_;(with_reducible refine(bK.c kj4 a0_0 true a0_2 a1 a0_4 a0_5 _ _ g5 _ _ g6 true _ ?side1 ?side2 ?side3 ?side4 z2.out).mono ?_);(case side1=>refine(Kd.R_reads' (e:=45) (base:=w.heap.size) (ok:=fun k_=>(True∧nw_ k_ j6 g6.length j5)) (n:=g5.length) (c:=j3) ?_).2.2;exact(kR_ (Kd.R_mono (Kd.R_far (p:=⟨g2,7,none⟩) (Kd.R_types g4.out g0.out (by decide)) (fun _ hk=>hk.2) (.slice j6 g6.length j5)) (fun _ h_=>h_.1))));(case side2=>exact(Kd.R_reads' g4.out).2.1);(case side3=>refine(Kd.R_reads' (e:=45) (base:=w.heap.size) (ok:=fun k_=>nw_ k_ j4 g5.length j3) (n:=g6.length) (c:=j5) ?_).2.2;exact(kR_ (Kd.R_mono (Kd.R_far (p:=⟨g2,7,none⟩) (Kd.R_types g8.out g0.out (by decide)) (fun _ hk=>hk.2) (.slice j6 g6.length j5)) (fun _ h_=>h_.1))));(case side4=>exact(Kd.R_reads' g8.out).2.1);rintro e T6 ⟨rfl,hb⟩;refine⟨_,rfl,?_⟩;replace g4:=a0_ (Kd.R_below (kR_ (Kd.R_mono (Kd.R_far (p:=⟨g2,7,none⟩) (Kd.R_types g4.out g0.out (by decide)) (fun _ hk=>hk.2) (.slice j6 g6.length j5)) (fun _ h_=>h_.1))) hb);replace g8:=a0_ (Kd.R_below (kR_ (Kd.R_mono (Kd.R_far (p:=⟨g2,7,none⟩) (Kd.R_types g8.out g0.out (by decide)) (fun _ hk=>hk.2) (.slice j6 g6.length j5)) (fun _ h_=>h_.1))) hb);replace g0:=a0_ (b_ (g:=g2) (o:=.cells #[.int .i64 a0_0,.bool true,.bool a0_2,.int .i64 a1,.string a0_4,.int .i64 a0_5,.slice j4 g5.length j3,.slice j6 g6.length j5] 62 (0,0)) (by(with_reducible repeat(first|refine aI ?_ _|refine az ?_|refine aE ?_ _));refine bE (cs:=#[.int .i64 a0_0,.bool true,.bool a0_2,.int .i64 a1,.string a0_4,.int .i64 a0_5,.slice j4 g5.length j3,.slice A0_7 l0_7.length c0_7]) ?_ 7 _ rfl;(with_reducible repeat(first|refine aI ?_ _|refine az ?_|refine aE ?_ _));exact g0.out) hb);replace g1:=a0_ (b_ (g:=g3) (o:=.cells #[.int .i64 0,.bool false,.bool false,.int .i64 0,.string (⟨#[]⟩:ByteArray),.int .i64 0,.slice none 0 0,.slice none 0 0] 62 (0,0)) bz_ hb);replace HB:=a0_ (aa aD hb);clear hb;obtain⟨_,_,_,_,_,_,_,_,_,_,_,_,_,_,_,_⟩:=bT g0.out;obtain⟨_,_,_,_,_,_,_,_,_,_,_,_,_,_,_,_⟩:=bT g1.out))
    refine bodyPost_ret (dQ rfl _ _ g3 62 #[.int .i64 a0_0,.bool true,.bool a0_2,.int .i64 a1,.string a0_4,.int .i64 a0_5,.slice j4 g5.length j3,.slice j6 g6.length j5] (0,0) _ rfl (fy g1.out) Tryz.underlying62 rfl (by kernel_rfl)) rfl ?_
    exact⟨_,_,rr_,by(with_reducible repeat(first|apply Kd.R_alloc|apply Kd.R_drewN|apply Kd.R_drew));exact Kd.R_mono (Kd.R_far (p:=⟨g3,7,none⟩) (Kd.R_far (p:=⟨g3,6,none⟩) (Kd.R_far (p:=⟨g3,5,none⟩) (Kd.R_far (p:=⟨g3,4,none⟩) (fX g3 (Kd.R_types g4.out g1.out (by decide)) (fun _ hk=>hk.2) (.int .i64 a0_0) (.bool true) (.bool a0_2) (.int .i64 a1)) (fun _ hk=>hk.2) (.string a0_4)) (fun _ hk=>hk.2) (.int .i64 a0_5)) (fun _ hk=>hk.2) (.slice j4 g5.length j3)) (fun _ hk=>hk.2) (.slice j6 g6.length j5)) (fun _ hk=>hk.1.2),by(with_reducible repeat(first|apply Kd.R_alloc|apply Kd.R_drewN|apply Kd.R_drew));exact Kd.R_mono (Kd.R_far (p:=⟨g3,7,none⟩) (Kd.R_far (p:=⟨g3,6,none⟩) (Kd.R_far (p:=⟨g3,5,none⟩) (Kd.R_far (p:=⟨g3,4,none⟩) (fX g3 (Kd.R_types g8.out g1.out (by decide)) (fun _ hk=>hk.2) (.int .i64 a0_0) (.bool true) (.bool a0_2) (.int .i64 a1)) (fun _ hk=>hk.2) (.string a0_4)) (fun _ hk=>hk.2) (.int .i64 a0_5)) (fun _ hk=>hk.2) (.slice j4 g5.length j3)) (fun _ hk=>hk.2) (.slice j6 g6.length j5)) (fun _ hk=>hk.1),aD⟩
   replace d5:=Bool.eq_false_iff.mpr d5;subst d5;rw[if_neg ff_]at H;simp only[Option.some.injEq,Prod.mk.injEq]at H;obtain⟨rfl,rfl,rfl,rfl,rfl,rfl,rfl,rfl,rfl⟩:=H;have f8:=g9.out;have f9:=g7.out;obtain⟨_,_,_,_,_,_,_,_,_,_,_,_,_,_,_,_⟩:=bT g0.out;go_wp2_with (first|((with_reducible refine ax (N:=21) rfl ?_);refine Kd.R_lit k45 _ 45 ?hg (N:=21) ?hd (xs:=([]:List (S45))) (inner:=[]) (ok:=fun _=>True) (okp:=fun _=>True) ?hr ?hp (fun _ hk=>hk) trivial (Below.refl _ _) (Nat.le_refl _) (by simp) ?_;(case hd=>rfl);(case hg=>rfl);(case hr=>first|(go_simp;done)|(go_simp;rfl));(case hp=>exact(br.none _ _));intro b4 T7 b3 hb hg_ hnew_;clear hg_ hnew_;(first|rw[← y1.out]at b3|(simp only[Int.reduceToNat]at b3;rw[← y1.out]at b3));have j1:=a0_ (Kd.R_lower b3 (aj aD));replace g0:=a0_ (b_ (g:=g2) (o:=.cells #[.int .i64 a0_0,.bool true,.bool a0_2,.int .i64 a1,.string a0_4,.int .i64 a0_5,.slice A0_6 l0_6.length c0_6,.slice A0_7 l0_7.length c0_7] 62 (0,0)) (by(with_reducible repeat(first|refine aI ?_ _|refine az ?_|refine aE ?_ _));refine bE (cs:=#[.int .i64 a0_0,.bool true,.bool a0_2,.int .i64 a0_3,.string a0_4,.int .i64 a0_5,.slice A0_6 l0_6.length c0_6,.slice A0_7 l0_7.length c0_7]) ?_ 3 _ rfl;(with_reducible repeat(first|refine aI ?_ _|refine az ?_|refine aE ?_ _));refine bE (cs:=#[.int .i64 a0_0,.bool a0_1,.bool a0_2,.int .i64 a0_3,.string a0_4,.int .i64 a0_5,.slice A0_6 l0_6.length c0_6,.slice A0_7 l0_7.length c0_7]) ?_ 1 _ rfl;(with_reducible repeat(first|refine aI ?_ _|refine az ?_|refine aE ?_ _));exact g0.out) hb);replace g1:=a0_ (b_ (g:=g3) (o:=.cells #[.int .i64 0,.bool false,.bool false,.int .i64 0,.string (⟨#[]⟩:ByteArray),.int .i64 0,.slice none 0 0,.slice none 0 0] 62 (0,0)) (iW g7.out g1.out) hb);replace HB:=a0_ (aa aD hb);clear hb b3)|((with_reducible refine bz (b:=.append) (xs:=#[.tmp 21,.tmp 22]) rfl ?_);at_builtin;refine Kd.R_append_rows k45 (w0:=w) w.heap.size rfl (.tmp 21) (.tmp 22) 27 45 (.agg #[(.string ⟨#[]⟩),(.int .i64 0),(.int .i64 0),(.string ⟨#[]⟩)]) 48 rfl Tryz.underlying27 dz rfl (by decide) (by omega) b4 y6 l2 _ _ _ (fun _=>True) (fun _=>False) rfl rfl ?aO ?aR (fun _ _ h=>h) (fun _ h=>h.elim) ?aF ?aB ?aS ?aL ?_;(case aR=>repeat(first|exact(Kd.C_below HR2.out HB.out)|(with_reducible refine Kd.C_alloc ?_ _)|(with_reducible refine Kd.C_drewN ?_ _)|(with_reducible refine Kd.C_drew ?_)));(case aB=>exact aD);(case aF=>exact(fun _ _=>trivial));(case aO=>exact(kR_ j1.out));(case aS=>exact(aj aD));(case aL=>have:=d0.out;omega);intro z0 T8 ho hb hg hat;rw[← b6.out]at ho;replace g0:=a0_ (cp (g:=g2) (o:=.cells #[.int .i64 a0_0,.bool true,.bool a0_2,.int .i64 a1,.string a0_4,.int .i64 a0_5,.slice A0_6 l0_6.length c0_6,.slice A0_7 l0_7.length c0_7] 62 (0,0)) (kB_ g0.out) hg (Kd.R_ne j1.out g0.out (by decide)));replace g1:=a0_ (cp (g:=g3) (o:=.cells #[.int .i64 0,.bool false,.bool false,.int .i64 0,.string (⟨#[]⟩:ByteArray),.int .i64 0,.slice none 0 0,.slice none 0 0] 62 (0,0)) (kB_ g1.out) hg (Kd.R_ne j1.out g1.out (by decide)));replace HB:=a0_ (hb);have g4:=a0_ (ho);clear j1;clear ho hb hg hat;obtain⟨j8,j7,z5⟩:=Kd.R_slice g4.out;subst z5;obtain⟨_,_,_,_,_,_,_,_,_,_,_,_,_,_,_,_⟩:=bT g0.out)|((with_reducible refine ax (N:=25) rfl ?_);refine Kd.R_lit k45 _ 45 ?hg (N:=25) ?hd (xs:=([]:List (S45))) (inner:=[]) (ok:=fun _=>True) (okp:=fun _=>True) ?hr ?hp (fun _ hk=>hk) trivial (Below.refl _ _) (Nat.le_refl _) (by simp) ?_;(case hd=>rfl);(case hg=>rfl);(case hr=>first|(go_simp;done)|(go_simp;rfl));(case hp=>exact(br.none _ _));intro b5 T9 y4 hb hg_ hnew_;clear hg_ hnew_;(first|rw[← y2.out]at y4|(simp only[Int.reduceToNat]at y4;rw[← y2.out]at y4));have j2:=a0_ (Kd.R_lower (Kd.R_new' y4 (Kd.R_lt (kR_ (Kd.R_mono (Kd.R_far (p:=⟨g2,6,none⟩) (Kd.R_types g4.out g0.out (by decide)) (fun _ hk=>hk.2) (.slice j8 g5.length j7)) (fun _ h_=>h_.1))))) (aj aD));replace g4:=a0_ (Kd.R_elder' (kR_ (Kd.R_mono (Kd.R_far (p:=⟨g2,6,none⟩) (Kd.R_types g4.out g0.out (by decide)) (fun _ hk=>hk.2) (.slice j8 g5.length j7)) (fun _ h_=>h_.1))) (Kd.R_base y4) hb);replace g1:=a0_ (b_ (g:=g3) (o:=.cells #[.int .i64 0,.bool false,.bool false,.int .i64 0,.string (⟨#[]⟩:ByteArray),.int .i64 0,.slice none 0 0,.slice none 0 0] 62 (0,0)) bz_ hb);replace g0:=a0_ (b_ (g:=g2) (o:=.cells #[.int .i64 a0_0,.bool true,.bool a0_2,.int .i64 a1,.string a0_4,.int .i64 a0_5,.slice j8 g5.length j7,.slice A0_7 l0_7.length c0_7] 62 (0,0)) (by(with_reducible repeat(first|refine aI ?_ _|refine az ?_|refine aE ?_ _));refine bE (cs:=#[.int .i64 a0_0,.bool true,.bool a0_2,.int .i64 a1,.string a0_4,.int .i64 a0_5,.slice A0_6 l0_6.length c0_6,.slice A0_7 l0_7.length c0_7]) ?_ 6 _ rfl;(with_reducible repeat(first|refine aI ?_ _|refine az ?_|refine aE ?_ _));exact g0.out) hb);replace HB:=a0_ (aa aD hb);clear hb y4)|((with_reducible refine bz (b:=.append) (xs:=#[.tmp 25,.tmp 26]) rfl ?_);at_builtin;refine Kd.R_append_rows k45 (w0:=w) w.heap.size rfl (.tmp 25) (.tmp 26) 27 45 (.agg #[(.string ⟨#[]⟩),(.int .i64 0),(.int .i64 0),(.string ⟨#[]⟩)]) 48 rfl Tryz.underlying27 dz rfl (by decide) (by omega) b5 y7 l3 _ _ _ (fun k_=>nw_ k_ j8 g5.length j7) (fun _=>False) rfl rfl ?aO ?aR (fun _ _ h=>h) (fun _ h=>h.elim) ?aF ?aB ?aS ?aL ?_;(case aR=>repeat(first|exact(Kd.C_below HR3.out HB.out)|(with_reducible refine Kd.C_alloc ?_ _)|(with_reducible refine Kd.C_drewN ?_ _)|(with_reducible refine Kd.C_drew ?_)));(case aB=>exact aD);(case aF=>exact(fun k_ hk=>Kd.fresh' (Kd.R_lt (kR_ g4.out)) k_ hk));(case aO=>exact(kR_ (Kd.R_mono j2.out (fun _ hk=>hk.2))));(case aS=>exact(aj aD));(case aL=>have:=d4.out;omega);intro z1 V0 ho hb hg hat;rw[← b7.out]at ho;replace g0:=a0_ (cp (g:=g2) (o:=.cells #[.int .i64 a0_0,.bool true,.bool a0_2,.int .i64 a1,.string a0_4,.int .i64 a0_5,.slice j8 g5.length j7,.slice A0_7 l0_7.length c0_7] 62 (0,0)) (kB_ g0.out) hg (Kd.R_ne j2.out g0.out (by decide)));replace g1:=a0_ (cp (g:=g3) (o:=.cells #[.int .i64 0,.bool false,.bool false,.int .i64 0,.string (⟨#[]⟩:ByteArray),.int .i64 0,.slice none 0 0,.slice none 0 0] 62 (0,0)) (kB_ g1.out) hg (Kd.R_ne j2.out g1.out (by decide)));replace g4:=a0_ (Kd.R_after (ok:=(fun _=>True)) (kR_ g4.out) hg hat);replace HB:=a0_ (hb);have g8:=a0_ (ho);clear j2;clear ho hb hg hat;obtain⟨y0,j9,z6⟩:=Kd.R_slice g8.out;subst z6;obtain⟨_,_,_,_,_,_,_,_,_,_,_,_,_,_,_,_⟩:=bT g0.out)|((with_reducible refine gt_ 101 rfl ?_);refine gs_ 30 Tryz.func101 #[.agg #[.int .i64 a0_0,.bool true,.bool a0_2,.int .i64 a1,.string a0_4,.int .i64 a0_5,.slice j8 g5.length j7,.slice y0 g6.length j9]] ?_;(with_reducible refine(bK.c kj4 a0_0 true a0_2 a1 a0_4 a0_5 _ _ g5 _ _ g6 false _ ?side1 ?side2 ?side3 ?side4 z2.out).mono ?_);(case side1=>refine(Kd.R_reads' (e:=45) (base:=w.heap.size) (ok:=fun k_=>(True∧nw_ k_ y0 g6.length j9)) (n:=g5.length) (c:=j7) ?_).2.2;exact(kR_ (Kd.R_mono (Kd.R_far (p:=⟨g2,7,none⟩) (Kd.R_types g4.out g0.out (by decide)) (fun _ hk=>hk.2) (.slice y0 g6.length j9)) (fun _ h_=>h_.1))));(case side2=>exact(Kd.R_reads' g4.out).2.1);(case side3=>refine(Kd.R_reads' (e:=45) (base:=w.heap.size) (ok:=fun k_=>nw_ k_ j8 g5.length j7) (n:=g6.length) (c:=j9) ?_).2.2;exact(kR_ (Kd.R_mono (Kd.R_far (p:=⟨g2,7,none⟩) (Kd.R_types g8.out g0.out (by decide)) (fun _ hk=>hk.2) (.slice y0 g6.length j9)) (fun _ h_=>h_.1))));(case side4=>exact(Kd.R_reads' g8.out).2.1);rintro e V1 ⟨rfl,hb⟩;refine⟨_,rfl,?_⟩;replace g4:=a0_ (Kd.R_below (kR_ (Kd.R_mono (Kd.R_far (p:=⟨g2,7,none⟩) (Kd.R_types g4.out g0.out (by decide)) (fun _ hk=>hk.2) (.slice y0 g6.length j9)) (fun _ h_=>h_.1))) hb);replace g8:=a0_ (Kd.R_below (kR_ (Kd.R_mono (Kd.R_far (p:=⟨g2,7,none⟩) (Kd.R_types g8.out g0.out (by decide)) (fun _ hk=>hk.2) (.slice y0 g6.length j9)) (fun _ h_=>h_.1))) hb);replace g0:=a0_ (b_ (g:=g2) (o:=.cells #[.int .i64 a0_0,.bool true,.bool a0_2,.int .i64 a1,.string a0_4,.int .i64 a0_5,.slice j8 g5.length j7,.slice y0 g6.length j9] 62 (0,0)) (by(with_reducible repeat(first|refine aI ?_ _|refine az ?_|refine aE ?_ _));refine bE (cs:=#[.int .i64 a0_0,.bool true,.bool a0_2,.int .i64 a1,.string a0_4,.int .i64 a0_5,.slice j8 g5.length j7,.slice A0_7 l0_7.length c0_7]) ?_ 7 _ rfl;(with_reducible repeat(first|refine aI ?_ _|refine az ?_|refine aE ?_ _));exact g0.out) hb);replace g1:=a0_ (b_ (g:=g3) (o:=.cells #[.int .i64 0,.bool false,.bool false,.int .i64 0,.string (⟨#[]⟩:ByteArray),.int .i64 0,.slice none 0 0,.slice none 0 0] 62 (0,0)) bz_ hb);replace HB:=a0_ (aa aD hb);clear hb;obtain⟨_,_,_,_,_,_,_,_,_,_,_,_,_,_,_,_⟩:=bT g1.out))
   refine bodyPost_ret (dQ rfl _ _ g3 62 #[.int .i64 0,.bool false,.bool false,.int .i64 0,.string (⟨#[]⟩:ByteArray),.int .i64 0,.slice none 0 0,.slice none 0 0] (0,0) _ rfl (fy g1.out) Tryz.underlying62 rfl (by kernel_rfl)) rfl ?_
   exact⟨_,_,rr_,by first|exact Kd.R_nil _ _ _ _ _|exact Kd.N_nil _ _ _ _ _|exact Kd.V_nil _ _ _ _ _|exact Kd.Q_nil _ _ _ _ _|exact Kd.S_nil _ _ _ _ _,by first|exact Kd.R_nil _ _ _ _ _|exact Kd.N_nil _ _ _ _ _|exact Kd.V_nil _ _ _ _ _|exact Kd.Q_nil _ _ _ _ _|exact Kd.S_nil _ _ _ _ _,aD⟩
end Go.Proofs.YtiegkjimpclmaaaGreatDoor.P
namespace Go.Proofs.YtiegkjimpclmaaaGreatDoor.P
def cw.f(k:Nat)(a0_0:Int)(a0_1:Bool)(a0_2:Bool)(a0_3:Int)(a0_4:ByteArray)(a0_5:Int)(l0_6:List (S45))(l0_7:List (S45)): Option (Bool):=(cx.f a0_0 0 65535).bind fun g0=>(if g0=true then((fe.f k a0_3).bind fun g1=>(if g1=true then((cg.f a0_4).bind fun g2=>(if g2=true then((fa.f k a0_5).bind fun g3=>(if g3=true then(if(l0_6.length:Int)>12 then(some false)else(if(l0_7.length:Int)>12 then(some false)else((bJ.f k l0_6).bind fun g4=>(if g4=true then((bJ.f k l0_7).bind fun g5=>(if g5=true then(if a0_1=true then(some true)else(if a0_2=true then(some false)else(if a0_3=0 then(if(l0_6.length:Int)=0 then(some ((l0_7.length:Int)==0))else(some false))else(some false))))else(some false)))else(some false)))))else(some false)))else(some false)))else(some false)))else(some false))
theorem cw.c(k:Nat)(a0_0:Int)(a0_1:Bool)(a0_2:Bool)(a0_3:Int)(a0_4:ByteArray)(a0_5:Int)(A0_6:Option Addr)(c0_6:Nat)(l0_6:List (S45))(A0_7:Option Addr)(c0_7:Nat)(l0_7:List (S45))(r:Bool)(w:World)(hr0_6:Kd.C k45 w A0_6 l0_6.length l0_6)(hc0_6:l0_6.length≤c0_6)(hr0_7:Kd.C k45 w A0_7 l0_7.length l0_7)(hc0_7:l0_7.length≤c0_7)(h:cw.f k a0_0 a0_1 a0_2 a0_3 a0_4 a0_5 l0_6 l0_7=some r)(hv_:Vars w:=by exact vv_):
 Calls Tryz.prog 105 #[.agg #[.int .i64 a0_0,.bool a0_1,.bool a0_2,.int .i64 a0_3,.string a0_4,.int .i64 a0_5,.slice A0_6 l0_6.length c0_6,.slice A0_7 l0_7.length c0_7]] w fun e w'=>e = .returned (.bool r)∧Below w.heap.size w w':=by
  have R6:=a0_ hr0_6;have C6:=a0_ hc0_6;have R7:=a0_ hr0_7;have C7:=a0_ hc0_7;have HV_:=a0_ hv_;clear hr0_6 hc0_6 hr0_7 hc0_7 hv_;have HB:=a0_ (Below.refl w.heap.size w);unfold cw.f at h;obtain⟨t,E1,h⟩:=ob_ h
  cases t<;>simp only[if_true,Bool.false_eq_true,if_false]at h
  all_goals try(obtain⟨t,E2,h⟩:=ob_ h;cases t<;>simp only[if_true,Bool.false_eq_true,if_false]at h)
  all_goals try(obtain⟨t,E3,h⟩:=ob_ h;cases t<;>simp only[if_true,Bool.false_eq_true,if_false]at h)
  all_goals try(obtain⟨t,E4,h⟩:=ob_ h;cases t<;>simp only[if_true,Bool.false_eq_true,if_false]at h)
  all_goals try(by_cases c5:(l0_6.length:Int)>12<;>first|(simp only[if_pos c5]at h;have d5:=decide_eq_true c5;have d5':decide (12<l0_6.length)=true:=decide_eq_true (by omega);clear c5)|(simp only[if_neg c5]at h;have d5:=decide_eq_false c5;have d5':decide (12<l0_6.length)=false:=decide_eq_false (by omega);clear c5))
  all_goals try(by_cases c6:(l0_7.length:Int)>12<;>first|(simp only[if_pos c6]at h;have d6:=decide_eq_true c6;have d6':decide (12<l0_7.length)=true:=decide_eq_true (by omega);clear c6)|(simp only[if_neg c6]at h;have d6:=decide_eq_false c6;have d6':decide (12<l0_7.length)=false:=decide_eq_false (by omega);clear c6))
  all_goals try(obtain⟨t,E7,h⟩:=ob_ h;cases t<;>simp only[if_true,Bool.false_eq_true,if_false]at h)
  all_goals try(obtain⟨t,E8,h⟩:=ob_ h;cases t<;>simp only[if_true,Bool.false_eq_true,if_false]at h)
  all_goals try(by_cases c1:a0_1=true<;>first|simp only[if_pos c1]at h|(simp only[if_neg c1]at h;replace c1:=Bool.eq_false_iff.mpr c1))
  all_goals try(by_cases c2:a0_2=true<;>first|simp only[if_pos c2]at h|(simp only[if_neg c2]at h;replace c2:=Bool.eq_false_iff.mpr c2))
  all_goals try(by_cases c3:a0_3=0<;>first|(simp only[if_pos c3]at h;have d3:=beq_iff_eq.mpr c3;have d3':=bne_eq_false_iff_eq.mpr c3;clear c3)|(simp only[if_neg c3]at h;have d3:=beq_eq_false_iff_ne.mpr c3;have d3':=bne_iff_ne.mpr c3))
  all_goals try(by_cases c4:(l0_6.length:Int)=0<;>first|(simp only[if_pos c4]at h;have d4:=beq_iff_eq.mpr c4;clear c4)|(simp only[if_neg c4]at h;have d4:=beq_eq_false_iff_ne.mpr c4))
  all_goals(
   obtain rfl:=Option.some.inj h;clear h;go_enter Tryz.func105,Tryz.ntmps105
   go_wp2_with (first
    | ((with_reducible refine ax (N:=1) rfl ?_);(try(refine bP (by rfl) ?_;dsimp only));refine cm 1 #[.int .i64 a0_0,.bool a0_1,.bool a0_2,.int .i64 a0_3,.string a0_4,.int .i64 a0_5,.slice A0_6 l0_6.length c0_6,.slice A0_7 l0_7.length c0_7] 62 (fun g hg w1 hbox hb=>?_);have BK:=a0_ hbox;replace HB:=a0_ (aa ay hb);clear hb hbox hg;obtain⟨_,_,_,_,_,_,_,_,_,_,_,_,_,_,_,_⟩:=bT BK.out)
    | ((with_reducible refine gt_ 84 rfl ?_);refine gs_ 5 Tryz.func84 #[.int .i64 a0_0,.int .i64 0,.int .i64 65535] ?_;(with_reducible refine(cx.c a0_0 0 65535 _ _ E1.out).mono ?_);rintro e w' ⟨rfl,⟨nd,rfl⟩⟩;refine⟨_,rfl,?_⟩)
    | (go_at_call 160;(with_reducible refine(fe.c k a0_3 _ _ E2.out).mono ?_);rintro e w3 ⟨rfl,hb⟩;replace BK:=a0_ (bq BK hb);replace HB:=a0_ (aa aD hb);clear hb;obtain⟨_,_,_,_,_,_,_,_,_,_,_,_,_,_,_,_⟩:=bT BK.out)
    | (go_at_call 83;(with_reducible refine(cg.c a0_4 _ _ E3.out).mono ?_);rintro e w3 ⟨rfl,hb⟩;replace BK:=a0_ (bq BK hb);replace HB:=a0_ (aa aD hb);clear hb;obtain⟨_,_,_,_,_,_,_,_,_,_,_,_,_,_,_,_⟩:=bT BK.out)
    | (go_at_call 161;(with_reducible refine(fa.c k a0_5 _ _ E4.out).mono ?_);rintro e w3 ⟨rfl,hb⟩;replace BK:=a0_ (bq BK hb);replace HB:=a0_ (aa aD hb);clear hb;obtain⟨_,_,_,_,_,_,_,_,_,_,_,_,_,_,_,_⟩:=bT BK.out)
    | (go_at_call 74;(with_reducible refine(bJ.c k A0_6 c0_6 l0_6 _ _ ?side1 ?side2 E7.out).mono ?_);(case side1=>exact kC_ R6.out HB.out);(case side2=>exact C6.out);rintro e w5 ⟨rfl,hb⟩;replace BK:=a0_ (bq BK hb);replace HB:=a0_ (aa aD hb);clear hb;obtain⟨_,_,_,_,_,_,_,_,_,_,_,_,_,_,_,_⟩:=bT BK.out)
    | (go_at_call 74;(with_reducible refine(bJ.c k A0_7 c0_7 l0_7 _ _ ?side1 ?side2 E8.out).mono ?_);(case side1=>exact kC_ R7.out HB.out);(case side2=>exact C7.out);rintro e w5 ⟨rfl,hb⟩;replace BK:=a0_ (bq BK hb);replace HB:=a0_ (aa aD hb);clear hb;obtain⟨_,_,_,_,_,_,_,_,_,_,_,_,_,_,_,_⟩:=bT BK.out))
   go_ret
   exact⟨rr_,aD⟩)
theorem mg(k:Nat)(b rest:ByteArray)(x:Int)(t1:ByteArray)(t2:List Int)(t3:Int)(t4:Bool)(h:ac.f k b x=some (t1,t2,t3,t4))(W:World)(gb gr:Nat)
 (hb:W.cell? ⟨gb,0,none⟩=some (.string b)) (hr:W.cell? ⟨gr,0,none⟩=some (.string rest)) :
 Calls Tryz.prog 243 #[.int .i64 x,.pointer (some ⟨gb,0,none⟩),.pointer (some ⟨gr,0,none⟩)] W fun e W'=>e = .returned (.bool (t4&&(t1.toList==rest.toList)))∧Below W.heap.size W W':=by
 have tc:=ac.c k b x t1 t2 t3 t4 W h;clear h
 cases t4 with
 | false=>
  go_enter Tryz.func243,Tryz.ntmps243;go_wp2_with (go_at_call 125;refine tc.mono ?_;rintro e w1 ⟨v,rfl,hR,hbw⟩;have l1:=(hbw.cell (World.block_lt_of_cell? _ _ hr)).trans hr);go_ret;exact⟨rfl,hbw⟩
 | true=>
  cases hq:(t1.toList==rest.toList)with
  | true=>
   go_enter Tryz.func243,Tryz.ntmps243;go_wp2_with (go_at_call 125;refine tc.mono ?_;rintro e w1 ⟨v,rfl,hR,hbw⟩;have l1:=(hbw.cell (World.block_lt_of_cell? _ _ hr)).trans hr);go_ret;exact⟨by first|rfl|simp[hq],hbw⟩
  | false=>
   go_enter Tryz.func243,Tryz.ntmps243;go_wp2_with (go_at_call 125;refine tc.mono ?_;rintro e w1 ⟨v,rfl,hR,hbw⟩;have l1:=(hbw.cell (World.block_lt_of_cell? _ _ hr)).trans hr);go_ret;exact⟨by first|rfl|simp[hq],hbw⟩
end Go.Proofs.YtiegkjimpclmaaaGreatDoor.P
