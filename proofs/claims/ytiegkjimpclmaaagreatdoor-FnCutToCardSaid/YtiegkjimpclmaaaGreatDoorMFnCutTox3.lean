/- FnCutTo: part 4 of 17 of my texts for this claim, joined; the theorem stands in the last. Conditions: none beyond the statement's. -/
import Derived.Test.YtiegkjimpclmaaaGreatDoorMFnCutTox2
open Go.RowKit Go.Proofs.YtiegkjimpclmaaaGreatDoorW.PrintWords Go.Proofs.YtiegkjimpclmaaaGreatDoorW.PrintLast Go.Proofs.YtiegkjimpclmaaaGreatDoorW.PrintMore
set_option linter.unusedVariables false
set_option linter.unusedSimpArgs false
set_option maxHeartbeats 8000000
set_option maxRecDepth 100000
namespace Go.Proofs.YtiegkjimpclmaaaGreatDoor.P
attribute [local go_sem] cG cD c_ cZ ci ch cE cH
def ak(w0 W:World)(g:Nat)(f0:List Int)(f1:Int)(f2:Int): Prop:=∃ A0 c0,W.heap[g]? = some (.cells #[.slice A0 f0.length c0,.int .i64 f1,.int .u64 f2] 117 (0,0))∧w0.heap.size≤g∧Kd.C (Kd.int .u8) w0 A0 f0.length f0
theorem ak.grown{w0 W:World}{g:Nat}{f0:List Int}{f1:Int}{f2:Int}{W1:World}{row:Option Nat}(h:ak w0 W g f0 f1 f2)(hw:W.grownBy W1 row)(hne:some g≠row): ak w0 W1 g f0 f1 f2:=by
 obtain⟨A0,c0,hb,hg,hr0⟩:=h;exact⟨A0,c0,cp hb hw hne,hg,hr0⟩
theorem ak.kept{w0 W:World}{g:Nat}{f0:List Int}{f1:Int}{f2:Int}{W1:World}{S:Nat→Prop}(h:ak w0 W g f0 f1 f2)(hk:cW W W1 S)(hne:¬ S g): ak w0 W1 g f0 f1 f2:=by
 obtain⟨A0,c0,hb,hg,hr0⟩:=h;exact⟨A0,c0,kn hb hk hne,hg,hr0⟩
theorem ak.below{w0 W:World}{g:Nat}{f0:List Int}{f1:Int}{f2:Int}{W1:World}(h:ak w0 W g f0 f1 f2)(hw:Below W.heap.size W W1): ak w0 W1 g f0 f1 f2:=h.grown (gJ hw none) (by simp)
theorem ak.alloc{w0 W:World}{g:Nat}{f0:List Int}{f1:Int}{f2:Int}(h:ak w0 W g f0 f1 f2)(o:Obj): ak w0 (W.alloc o) g f0 f1 f2:=h.below (bF (Below.refl _ _) o)
theorem ak.drewN{w0 W:World}{g:Nat}{f0:List Int}{f1:Int}{f2:Int}(h:ak w0 W g f0 f1 f2)(m:Nat): ak w0 (W.drewN m) g f0 f1 f2:=h
theorem ak.drew{w0 W:World}{g:Nat}{f0:List Int}{f1:Int}{f2:Int}(h:ak w0 W g f0 f1 f2): ak w0 W.drew g f0 f1 f2:=h
theorem ak.at_{w0 W:World}{g:Nat}{f0:List Int}{f1:Int}{f2:Int}{w':World}{m:Nat}(hq:W.drewN m=w')(h:ak w0 W g f0 f1 f2): ak w0 w' g f0 f1 f2:=by subst hq;exact ak.drewN h m
theorem ak.apart{w0 W:World}{g:Nat}{f0:List Int}{f1:Int}{f2:Int}{α:Type}{d:Kd α}{e:Nat}{base:Nat}{ok:Nat→Prop}{v:Value}{xs:List α}(h:ak w0 W g f0 f1 f2)(ho:d.R e W base ok v xs)(ht:∀ q,q∈e::d.E→q≠117): d.R e W base (fun k=>ok k∧k≠g) v xs:=by
 obtain⟨A0,c0,hb,hg,hr0⟩:=h;exact Kd.R_types ho hb ht
theorem ak.own_ne{w0 W:World}{g:Nat}{f0:List Int}{f1:Int}{f2:Int}{α:Type}{d:Kd α}{e:Nat}{base:Nat}{ok:Nat→Prop}{v:Value}{xs:List α}(h:ak w0 W g f0 f1 f2)(ho:d.R e W base ok v xs)(ht:e≠117): some g≠v.ownBlock:=by
 obtain⟨A0,c0,hb,hg,hr0⟩:=h;exact Kd.R_ne ho hb ht
theorem ak.apartS{w0 W:World}{g:Nat}{f0:List Int}{f1:Int}{f2:Int}{α:Type}{d:Kd α}{e:Nat}{base:Nat}{ok:Nat→Prop}{v:Value}{xs:List α}(h:ak w0 W g f0 f1 f2)(ho:d.S e W base ok v xs)(ht:∀ q,q∈e::d.E→q≠117): d.S e W base (fun k=>ok k∧k≠g) v xs:=by
 obtain⟨A0,c0,hb,hg,hr0⟩:=h;exact Kd.S_types ho hb ht
theorem ak.lt{w0 W:World}{g:Nat}{f0:List Int}{f1:Int}{f2:Int}(h:ak w0 W g f0 f1 f2): g<W.heap.size:=by
 obtain⟨A0,c0,hb,hg,hr0⟩:=h;exact cB hb
theorem ak.ge{w0 W:World}{g:Nat}{f0:List Int}{f1:Int}{f2:Int}(h:ak w0 W g f0 f1 f2): w0.heap.size≤g:=by
 obtain⟨A0,c0,hb,hg,hr0⟩:=h;exact hg
theorem ak.ne_blk{w0 W:World}{g:Nat}{f0:List Int}{f1:Int}{f2:Int}{a:Nat}{cs:Array Value}{t:TypeId}{fr:Nat×Nat}(h:ak w0 W g f0 f1 f2)(hb2:W.heap[a]? = some (.cells cs t fr))(ht:t≠117): g≠a:=by
 obtain⟨A0,c0,hb,hg,hr0⟩:=h;rintro rfl;rw[hb]at hb2
 injection hb2 with hb2
 injection hb2 with _ ht2
 exact ht ht2.symm
theorem ak.far{w0 W:World}{g:Nat}{f0:List Int}{f1:Int}{f2:Int}{p:Addr}(h:ak w0 W g f0 f1 f2)(hne:g≠p.block)(u:Value): ak w0 (W.setCell p u) g f0 f1 f2:=by
 obtain⟨A0,c0,hb,hg,hr0⟩:=h;exact⟨A0,c0,dB hb hne u,hg,hr0⟩
theorem gq{W:World}{g:Nat}{A0:Option Addr}{c0:Nat}{f0:List Int}{f1:Int}{f2:Int}(h:W.heap[g]? = some (.cells #[.slice A0 f0.length c0,.int .i64 f1,.int .u64 f2] 117 (0,0))): W.cell? ⟨g,0,none⟩=some (.slice A0 f0.length c0):=(af h 0).trans rfl
theorem gt{W:World}{g:Nat}{A0:Option Addr}{c0:Nat}{f0:List Int}{f1:Int}{f2:Int}(h:W.heap[g]? = some (.cells #[.slice A0 f0.length c0,.int .i64 f1,.int .u64 f2] 117 (0,0))): W.cell? ⟨g,1,none⟩=some (.int .i64 f1):=(af h 1).trans rfl
theorem ak.set_1{w0 W:World}{g:Nat}{f0:List Int}{f1:Int}{f2:Int}(h:ak w0 W g f0 f1 f2)(x:Int): ak w0 (W.setCell ⟨g,1,none⟩ (.int .i64 x)) g f0 x f2:=by
 obtain⟨A0,c0,hb,hg,hr0⟩:=h;exact⟨A0,c0,by simpa using iI hb 1 (.int .i64 x),hg,hr0⟩
theorem gu{W:World}{g:Nat}{A0:Option Addr}{c0:Nat}{f0:List Int}{f1:Int}{f2:Int}(h:W.heap[g]? = some (.cells #[.slice A0 f0.length c0,.int .i64 f1,.int .u64 f2] 117 (0,0))): W.cell? ⟨g,2,none⟩=some (.int .u64 f2):=(af h 2).trans rfl
theorem ak.set_2{w0 W:World}{g:Nat}{f0:List Int}{f1:Int}{f2:Int}(h:ak w0 W g f0 f1 f2)(x:Int): ak w0 (W.setCell ⟨g,2,none⟩ (.int .u64 x)) g f0 f1 x:=by
 obtain⟨A0,c0,hb,hg,hr0⟩:=h;exact⟨A0,c0,by simpa using iI hb 2 (.int .u64 x),hg,hr0⟩
theorem ak.new(w0 W:World)(A0:Option Addr)(c0:Nat)(f0:List Int)(f1:Int)(f2:Int)(hB:Below w0.heap.size w0 W)(hr0:Kd.C (Kd.int .u8) w0 A0 f0.length f0): ak w0 (W.alloc (.cells #[.slice A0 f0.length c0,.int .i64 f1,.int .u64 f2] 117)) W.heap.size f0 f1 f2:=⟨A0,c0,by simpa using heap_alloc_new W _,hB.size,hr0⟩
def dp.f(s0_0:List Int)(s0_1:Int)(s0_2:Int): Option (Int×Int×Int):=if s0_1<(s0_0.length:Int)then(if 0≤s0_1 then(if(wrap64 (s0_1+1))≤(s0_0.length:Int)then(some (wrap64 (rd s0_0 s0_1),wrap64 (s0_1+1),IntKind.u64.wrap ((IntKind.u64.wrap ((IntKind.u64.wrap (s0_2*6364136223846793005))+(IntKind.u64.wrap (wrap64 (rd s0_0 s0_1)))))+1442695040888963407)))else(some (wrap64 (Go.bits .and .u64 ((IntKind.u64.wrap ((IntKind.u64.wrap ((IntKind.u64.wrap (s0_2*6364136223846793005))+(IntKind.u64.wrap (wrap64 (rd s0_0 s0_1)))))+1442695040888963407)) / 1099511627776) 255),wrap64 (s0_1+1),IntKind.u64.wrap ((IntKind.u64.wrap ((IntKind.u64.wrap (s0_2*6364136223846793005))+(IntKind.u64.wrap (wrap64 (rd s0_0 s0_1)))))+1442695040888963407))))else(none))else(if(wrap64 (s0_1+1))≤(s0_0.length:Int)then(some (0,wrap64 (s0_1+1),IntKind.u64.wrap ((IntKind.u64.wrap ((IntKind.u64.wrap (s0_2*6364136223846793005))))+1442695040888963407)))else(some (wrap64 (Go.bits .and .u64 ((IntKind.u64.wrap ((IntKind.u64.wrap ((IntKind.u64.wrap (s0_2*6364136223846793005))))+1442695040888963407)) / 1099511627776) 255),wrap64 (s0_1+1),IntKind.u64.wrap ((IntKind.u64.wrap ((IntKind.u64.wrap (s0_2*6364136223846793005))))+1442695040888963407))))
theorem dp.c(g:Nat)(s0_0:List Int)(s0_1:Int)(s0_2:Int)(r1:Int)(r2:Int)(r3:Int)(w0 w:World)(hI:ak w0 w g s0_0 s0_1 s0_2)(hB:Below w0.heap.size w0 w)(h:dp.f s0_0 s0_1 s0_2=some (r1,r2,r3)):
 Calls Tryz.prog 165 #[.pointer (some ⟨g,0,none⟩)] w fun e w'=>e = .returned (.int .i64 r1)∧ak w0 w' g s0_0 r2 r3∧Below w0.heap.size w0 w'∧aJ w w' g none:=by
 have HI0:=a0_ hI;have HK:=a0_ (aJ.refl w g none);have HL:=a0_ hB.size;clear hI;have HW0:=a0_ hB.size;have HB:=a0_ hB;clear hB;have H:(if s0_1<(s0_0.length:Int)then(if 0≤s0_1 then(if(wrap64 (s0_1+1))≤(s0_0.length:Int)then(some (wrap64 (rd s0_0 s0_1),wrap64 (s0_1+1),IntKind.u64.wrap ((IntKind.u64.wrap ((IntKind.u64.wrap (s0_2*6364136223846793005))+(IntKind.u64.wrap (wrap64 (rd s0_0 s0_1)))))+1442695040888963407)))else(some (wrap64 (Go.bits .and .u64 ((IntKind.u64.wrap ((IntKind.u64.wrap ((IntKind.u64.wrap (s0_2*6364136223846793005))+(IntKind.u64.wrap (wrap64 (rd s0_0 s0_1)))))+1442695040888963407)) / 1099511627776) 255),wrap64 (s0_1+1),IntKind.u64.wrap ((IntKind.u64.wrap ((IntKind.u64.wrap (s0_2*6364136223846793005))+(IntKind.u64.wrap (wrap64 (rd s0_0 s0_1)))))+1442695040888963407))))else(none))else(if(wrap64 (s0_1+1))≤(s0_0.length:Int)then(some (0,wrap64 (s0_1+1),IntKind.u64.wrap ((IntKind.u64.wrap ((IntKind.u64.wrap (s0_2*6364136223846793005))))+1442695040888963407)))else(some (wrap64 (Go.bits .and .u64 ((IntKind.u64.wrap ((IntKind.u64.wrap ((IntKind.u64.wrap (s0_2*6364136223846793005))))+1442695040888963407)) / 1099511627776) 255),wrap64 (s0_1+1),IntKind.u64.wrap ((IntKind.u64.wrap ((IntKind.u64.wrap (s0_2*6364136223846793005))))+1442695040888963407)))))=some (r1,r2,r3):=h;clear h
 by_cases c2:s0_1<(s0_0.length:Int)
 case neg=>
  rw[if_neg c2]at H;have c2b0:=decide_eq_false c2;clear c2
  by_cases c7:(wrap64 (s0_1+1))≤(s0_0.length:Int)
  case neg=>
   rw[if_neg c7]at H;have c7b0:=decide_eq_false c7;clear c7;simp only[Option.some.injEq,Prod.mk.injEq]at H;obtain⟨rfl,rfl,rfl⟩:=H;obtain⟨ASz9_0,cSz9_0,HGz9,hgz9,HSz9_0⟩:=HI0.out;have z9_0:=gq HGz9;have z9_1:=gt HGz9;have z9_2:=gu HGz9;have q9_1:=cr HGz9 1;have q9_2:=cr HGz9 2;clear HGz9 hgz9;go_enter Tryz.func165,Tryz.ntmps165;go_wp2
   repeat(go_quiet (fail);try go_wp2)
   go_ret;exact⟨rr_,by repeat(first|(with_reducible first|exact HI0.out|apply ak.alloc|apply ak.drewN|apply ak.drew|apply ak.set_1|apply ak.set_2)|exact HI0.out),by repeat(first|(with_reducible first|exact HB.out|apply bF|apply bv|apply bp|refine cz ?_ (ak.ge HI0.out))|exact HB.out),by repeat(first|(with_reducible first|exact HK.out|apply aJ.set_|apply fq|apply fG|apply fp)|exact HK.out)⟩
  rw[if_pos c7]at H;have c7b0:=decide_eq_true c7;clear c7;simp only[Option.some.injEq,Prod.mk.injEq]at H;obtain⟨rfl,rfl,rfl⟩:=H;obtain⟨ASz8_0,cSz8_0,HGz8,hgz8,HSz8_0⟩:=HI0.out;have z8_0:=gq HGz8;have z8_1:=gt HGz8;have z8_2:=gu HGz8;have q8_1:=cr HGz8 1;have q8_2:=cr HGz8 2;clear HGz8 hgz8;go_enter Tryz.func165,Tryz.ntmps165;go_wp2
  repeat(go_quiet (fail);try go_wp2)
  go_ret;exact⟨rr_,by repeat(first|(with_reducible first|exact HI0.out|apply ak.alloc|apply ak.drewN|apply ak.drew|apply ak.set_1|apply ak.set_2)|exact HI0.out),by repeat(first|(with_reducible first|exact HB.out|apply bF|apply bv|apply bp|refine cz ?_ (ak.ge HI0.out))|exact HB.out),by repeat(first|(with_reducible first|exact HK.out|apply aJ.set_|apply fq|apply fG|apply fp)|exact HK.out)⟩
 rw[if_pos c2]at H;have c2b0:=decide_eq_true c2;clear c2
 by_cases c3:0≤s0_1
 case neg=>
  rw[if_neg c3]at H;exact absurd H (by simp)
 rw[if_pos c3]at H;have c3b0:=decide_eq_true c3;clear c3
 by_cases c4:(wrap64 (s0_1+1))≤(s0_0.length:Int)
 case neg=>
  rw[if_neg c4]at H;have c4b0:=decide_eq_false c4;clear c4;simp only[Option.some.injEq,Prod.mk.injEq]at H;obtain⟨rfl,rfl,rfl⟩:=H;obtain⟨ASz6_0,cSz6_0,HGz6,hgz6,HSz6_0⟩:=HI0.out;have z6_0:=gq HGz6;have z6_1:=gt HGz6;have z6_2:=gu HGz6;have q6_1:=cr HGz6 1;have q6_2:=cr HGz6 2;clear HGz6 hgz6;have g1:=t0_ (s0_1);have g2:=tl_ (s0_1) (s0_0.length);obtain⟨g4,g3,g0⟩:=Kd.at_int HSz6_0 s0_1 (of_eq_true g1) (of_eq_true g2);cases g3;replace g0:=eP HB.out g0;go_enter Tryz.func165,Tryz.ntmps165;go_wp2
  repeat(go_quiet (fail);try go_wp2)
  go_ret;exact⟨rr_,by repeat(first|(with_reducible first|exact HI0.out|apply ak.alloc|apply ak.drewN|apply ak.drew|apply ak.set_1|apply ak.set_2)|exact HI0.out),by repeat(first|(with_reducible first|exact HB.out|apply bF|apply bv|apply bp|refine cz ?_ (ak.ge HI0.out))|exact HB.out),by repeat(first|(with_reducible first|exact HK.out|apply aJ.set_|apply fq|apply fG|apply fp)|exact HK.out)⟩
 rw[if_pos c4]at H;have c4b0:=decide_eq_true c4;clear c4;simp only[Option.some.injEq,Prod.mk.injEq]at H;obtain⟨rfl,rfl,rfl⟩:=H;obtain⟨ASz5_0,cSz5_0,HGz5,hgz5,HSz5_0⟩:=HI0.out;have z5_0:=gq HGz5;have z5_1:=gt HGz5;have z5_2:=gu HGz5;have q5_1:=cr HGz5 1;have q5_2:=cr HGz5 2;clear HGz5 hgz5;have g1:=t0_ (s0_1);have g2:=tl_ (s0_1) (s0_0.length);obtain⟨g4,g3,g0⟩:=Kd.at_int HSz5_0 s0_1 (of_eq_true g1) (of_eq_true g2);cases g3;replace g0:=eP HB.out g0;go_enter Tryz.func165,Tryz.ntmps165;go_wp2
 repeat(go_quiet (fail);try go_wp2)
 go_ret;exact⟨rr_,by repeat(first|(with_reducible first|exact HI0.out|apply ak.alloc|apply ak.drewN|apply ak.drew|apply ak.set_1|apply ak.set_2)|exact HI0.out),by repeat(first|(with_reducible first|exact HB.out|apply bF|apply bv|apply bp|refine cz ?_ (ak.ge HI0.out))|exact HB.out),by repeat(first|(with_reducible first|exact HK.out|apply aJ.set_|apply fq|apply fG|apply fp)|exact HK.out)⟩
def bX.f: Nat→Int→Option (ByteArray)
 | 0,_=>none
 | k+1,a0=>if a0<10 then(some (strOfNums (([(wrap64 (48+a0))%256]:List Int))))else((bX.f k (wrap64 (Int.tdiv a0 10))).bind fun g0=>((some (([(wrap64 (48+(Int.tmod a0 10)))%256]:List Int):List Int)).bind fun g1=>(if g0.size+(strOfNums g1).size≤9223372036854775807 then(some (g0++(strOfNums g1)))else(none))))
def bX.T3: Bool×List (List Nat×List Nat):=(true,[([],[]),([0],[0]),([1],[1]),([],[]),([3],[3]),([4],[4]),([5],[5]),([6],[6]),([7],[7]),([2,8],[2,8]),([9,2,0,1,2,3,4,5,6,7,8,9],[9])])
def bX.B3: List Nat:=[0,1,3,0,8,24,56,120,248,511,1023]
theorem bX.tab3: eA .any (fc Tryz.f52 3)=bX.T3:=by kernel_rfl
theorem bX.bits3: du bX.T3.2 bX.B3=true:=by kernel_rfl
theorem bX.c(k:Nat): ∀ (a0:Int) (r:ByteArray) (w:World) (h:bX.f k a0=some r),
 Calls Tryz.prog 52 #[.int .i64 a0] w fun e w'=>e = .returned (.string r)∧Below w.heap.size w w':=by
 induction k using Nat.strongRecOn with
 | _ k ih=>
 intro a0 r w h
 cases k with
 | zero=>exact absurd h (by simp[bX.f])
 | succ k=>
 simp only[bX.f]at h;have HB:=a0_ (Below.refl w.heap.size w);have H:(if a0<10 then(some (strOfNums (([(wrap64 (48+a0))%256]:List Int))))else((bX.f k (wrap64 (Int.tdiv a0 10))).bind fun g1=>((some (([(wrap64 (48+(Int.tmod a0 10)))%256]:List Int):List Int)).bind fun g2=>(if g1.size+(strOfNums g2).size≤9223372036854775807 then(some (g1++(strOfNums g2)))else(none)))))=some r:=h;clear h
 by_cases c2:a0<10
 case pos=>
  rw[if_pos c2]at H;have c2b0:=decide_eq_true c2;clear c2;obtain⟨j2,g7⟩:∃ y_:List Int,y_=(([(wrap64 (48+a0))%256]:List Int)):=⟨_,rfl⟩;rw[← g7]at H;have g9:=a0_ g7;clear g7;obtain rfl:=Option.some.inj H;go_enter Tryz.func52,Tryz.ntmps52;go_wp2_with (first|((with_reducible refine ax (N:=8) rfl ?_);refine Kd.R_lit (Kd.int .u8) _ 5 ?hg (N:=8) ?hd (xs:=([(wrap64 (48+a0))%256]:List Int)) (inner:=[.int .u8 ((wrap64 (48+a0))%256)]) (ok:=fun _=>True) (okp:=fun _=>True) ?hr ?hp (fun _ hk=>hk) trivial (Below.refl _ _) (Nat.le_refl _) (by simp) ?_;(case hd=>rfl);(case hg=>rfl);(case hr=>first|(go_simp;done)|(go_simp;rfl));(case hp=>exact(br.one (show Kd.M (Kd.int .u8) _ _ _ ((wrap64 (48+a0))%256) [.int .u8 ((wrap64 (48+a0))%256)]from rfl) (br.none _ _)));intro j3 w3 ho4 hb hg_ hnew_;clear hg_ hnew_;(first|rw[← g9.out]at ho4|(simp only[Int.reduceToNat]at ho4;rw[← g9.out]at ho4));have j0:=a0_ (Kd.R_lower ho4 (aj ay));replace HB:=a0_ (aa ay hb);clear hb ho4;have hcv5:=ea (P:=Tryz.prog) Tryz.underlying43 Tryz.underlying5 Tryz.underlying9 (Kd.own_of_R j0.out)));go_ret;exact⟨rr_,ay⟩
 rw[if_neg c2]at H;have c2b0:=decide_eq_false c2;clear c2;obtain⟨g1,A6,H⟩:=ob_ H;obtain⟨g2,g8⟩:∃ y_:List Int,y_=(([(wrap64 (48+(Int.tmod a0 10)))%256]:List Int)):=⟨_,rfl⟩;replace H:=by_ g8 H;have g4:=a0_ g8;clear g8
 by_cases c7:g1.size+(strOfNums g2).size≤9223372036854775807
 case neg=>
  rw[if_neg c7]at H;exact absurd H (by simp)
 rw[if_pos c7]at H;have c7b0:=eq_true c7;have c7b1:=decide_eq_true c7
 try have c7b2:(9223372036854775807<g1.size+(strOfNums g2).size)=False:=eq_false (Nat.not_lt.2 c7)
 obtain rfl:=Option.some.inj H;go_enter Tryz.func52,Tryz.ntmps52
 try go_wp2
 replace HB:=a0_ (bp HB.out)
 refine fN 11 [] ht_ (fun hHeld=>?_);refine ck bX.tab3 bX.bits3 (fun HT_ HW_=>?_)
 generalize w.drew=w8 at HB hHeld ⊢
 refine dE (i:=0) (N:=some 10) (v:=?_) (a':=?_) #[true,false,false,false,false,false,false,false,false,false,false] rfl rfl (fw HT_.out (by kernel_rfl)) (fun _ _ _ h=>h) (Or.inl ⟨by rfl,?_⟩) ?_ ?_
 rotate_left
 · intro w'
   go_simp
   with_reducible rfl
 rotate_left
 · simp only [Act.put, List.setIfInBounds_toArray, List.set_cons_zero, List.set_cons_succ, bu, bI]
   rfl
 refine dE (i:=1) (N:=some 11) (v:=?_) (a':=?_) #[true,true,false,false,false,false,false,false,false,false,false] rfl rfl (fw HT_.out (by kernel_rfl)) (fun _ _ _ h=>h) (Or.inl ⟨by rfl,?_⟩) ?_ ?_
 rotate_left
 · intro w'
   go_simp
   with_reducible rfl
 rotate_left
 · simp only [Act.put, List.setIfInBounds_toArray, List.set_cons_zero, List.set_cons_succ, bu, bI]
   rfl
 refine dE (i:=3) (N:=some 13) (v:=?_) (a':=?_) #[true,true,false,true,false,false,false,false,false,false,false] rfl rfl (fw HT_.out (by kernel_rfl)) (fun _ _ _ h=>h) (Or.inl ⟨by rfl,?_⟩) ?_ ?_
 rotate_left
 · intro w'
   go_simp
   with_reducible rfl
 rotate_left
 · simp only [Act.put, List.setIfInBounds_toArray, List.set_cons_zero, List.set_cons_succ, bu, bI]
   rfl
 refine dE (i:=4) (N:=some 14) (v:=?_) (a':=?_) #[true,true,false,true,true,false,false,false,false,false,false] rfl rfl (fw HT_.out (by kernel_rfl)) (fun _ _ _ h=>h) (Or.inl ⟨by rfl,?_⟩) ?_ ?_
 rotate_left
 · intro w'
   go_simp
   with_reducible rfl
 rotate_left
 · simp only [Act.put, List.setIfInBounds_toArray, List.set_cons_zero, List.set_cons_succ, bu, bI]
   rfl
 refine dE (i:=5) (N:=some 15) (v:=?_) (a':=?_) #[true,true,false,true,true,true,false,false,false,false,false] rfl rfl (fw HT_.out (by kernel_rfl)) (fun _ _ _ h=>h) (Or.inl ⟨by rfl,?_⟩) ?_ ?_
 rotate_left
 · intro w'
   go_simp
   with_reducible rfl
 rotate_left
 · simp only [Act.put, List.setIfInBounds_toArray, List.set_cons_zero, List.set_cons_succ, bu, bI]
   rfl
 refine dE (i:=6) (N:=some 16) (v:=?_) (a':=?_) #[true,true,false,true,true,true,true,false,false,false,false] rfl rfl (fw HT_.out (by kernel_rfl)) (fun _ _ _ h=>h) (Or.inl ⟨by rfl,?_⟩) ?_ ?_
 rotate_left
 · intro w'
   go_simp
   with_reducible rfl
 rotate_left
 · simp only [Act.put, List.setIfInBounds_toArray, List.set_cons_zero, List.set_cons_succ, bu, bI]
   rfl
 refine gC (σ:=Value) 2 #[true,true,true,true,true,true,true,true,true,false,false] (fun s_=>[(12,.string g1),(17,s_),(18,.string (strOfNums g2))]) (fun s_ w'=>(Kd.R (Kd.int .u8) 5 w' w.heap.size (fun _=>True) s_ g2)∧(Below w.heap.size w w')) ?_ ?_
 rotate_left
 · intro hCont
   refine mN (i:=2) (j:=7) (Ni:=some 12) (Nj:=some 17) #[true,true,true,true,true,true,true,false,false,false,false] #[true,true,false,true,true,true,true,true,false,false,false] rfl rfl rfl rfl (il HT_.out (by kernel_rfl)) (by decide) (by decide) (fun K hK=>?_) (fun K hK=>?_)
   · skip
     refine dm Tryz.func52 (by kernel_rfl) rfl #[.int .i64 (wrap64 (Int.tdiv a0 10))] (by rfl) rfl rfl cS ?_
     with_reducible refine(ih k (by omega) (wrap64 (Int.tdiv a0 10)) g1 _ A6.out).mono ?_
     rintro e w9 ⟨rfl,hb⟩;refine⟨_,rfl,?_⟩;replace HB:=a0_ (aa ay hb)
     (try clear hb)
     (try clear hb2)
     (try clear hk)
     (try clear hi)
     refine hK.out _ _ trivial (fun hHeld=>?_);clear hK K
     refine fi (a':=?_) ?_ ?_
     rotate_left
     · show Act.put _ (some 12) _ = _
       simp only[Act.put,List.setIfInBounds_toArray,List.set_cons_zero,List.set_cons_succ,bu,bI];rfl
     refine lN (i:=7) (N:=some 17) #[true,true,true,true,true,true,true,true,false,false,false] rfl rfl (fY HT_.out (by kernel_rfl)) (by decide) (fun K hK=>?_)
     refine Kd.R_lit_step (Kd.int .u8) _ 5 ?hg (N:=17) ?hd (xs:=([(wrap64 (48+(Int.tmod a0 10)))%256]:List Int)) (inner:=[.int .u8 ((wrap64 (48+(Int.tmod a0 10)))%256)]) (ok:=fun _=>True) (okp:=fun _=>True) ?hr ?hp (fun _ hk=>hk) trivial (Below.refl _ _) (Nat.le_refl _) (by simp) ?_;(case hd=>rfl);(case hg=>rfl);(case hr=>first|(go_simp;done)|(go_simp;rfl));(case hp=>exact(br.one (show Kd.M (Kd.int .u8) _ _ _ ((wrap64 (48+(Int.tmod a0 10)))%256) [.int .u8 ((wrap64 (48+(Int.tmod a0 10)))%256)]from rfl) (br.none _ _)))
     intro g3 j4 g5 hb hg_ hnew_;clear hg_ hnew_
     (first|rw[← g4.out]at g5|(simp only[Int.reduceToNat]at g5;rw[← g4.out]at g5))
     have g0:=a0_ (Kd.R_lower g5 (aj ay));replace HB:=a0_ (aa ay hb);clear hb g5;refine hK.out _ _ trivial (fun hHeld=>?_);clear hK K
     refine fi (a':=?_) ?_ ?_
     rotate_left
     · show Act.put _ (some 17) _ = _
       simp only[Act.put,List.setIfInBounds_toArray,List.set_cons_zero,List.set_cons_succ,bu,bI];rfl
     refine lN (i:=8) (N:=some 18) #[true,true,true,true,true,true,true,true,true,false,false] rfl rfl (fY HT_.out (by kernel_rfl)) (by decide) (fun K hK=>?_);have hcv12:=ea (P:=Tryz.prog) Tryz.underlying43 Tryz.underlying5 Tryz.underlying9 (Kd.own_of_R g0.out)
     refine iV (w1:=?_) (v:=?_) (by rfl) rfl ?_ ?_
     rotate_left 2
     · go_simp
       constructor
       ·rfl
       ·rfl
     clear hcv12;refine hK.out _ _ trivial (fun hHeld=>?_);clear hK K
     refine fi (a':=?_) ?_ ?_
     rotate_left
     · show Act.put _ (some 18) _ = _
       simp only[Act.put,List.setIfInBounds_toArray,List.set_cons_zero,List.set_cons_succ,bu,bI];rfl
     exact fi (by simp only[f_,Act.put,List.setIfInBounds_toArray,List.set_cons_zero,List.set_cons_succ]) (hCont (g3) _ ⟨(kR_ g0.out),ay⟩)
   · skip
     refine Kd.R_lit_step (Kd.int .u8) _ 5 ?hg (N:=17) ?hd (xs:=([(wrap64 (48+(Int.tmod a0 10)))%256]:List Int)) (inner:=[.int .u8 ((wrap64 (48+(Int.tmod a0 10)))%256)]) (ok:=fun _=>True) (okp:=fun _=>True) ?hr ?hp (fun _ hk=>hk) trivial (Below.refl _ _) (Nat.le_refl _) (by simp) ?_;(case hd=>rfl);(case hg=>rfl);(case hr=>first|(go_simp;done)|(go_simp;rfl));(case hp=>exact(br.one (show Kd.M (Kd.int .u8) _ _ _ ((wrap64 (48+(Int.tmod a0 10)))%256) [.int .u8 ((wrap64 (48+(Int.tmod a0 10)))%256)]from rfl) (br.none _ _)))
     intro g3 w9 g6 hb hg_ hnew_;clear hg_ hnew_
     (first|rw[← g4.out]at g6|(simp only[Int.reduceToNat]at g6;rw[← g4.out]at g6))
     have g0:=a0_ (Kd.R_lower g6 (aj ay));replace HB:=a0_ (aa ay hb);clear hb g6;refine hK.out _ _ trivial (fun hHeld=>?_);clear hK K
     refine fi (a':=?_) ?_ ?_
     rotate_left
     · show Act.put _ (some 17) _ = _
       simp only[Act.put,List.setIfInBounds_toArray,List.set_cons_zero,List.set_cons_succ,bu,bI];rfl
     refine mN (i:=2) (j:=8) (Ni:=some 12) (Nj:=some 18) #[true,true,true,true,true,true,true,true,false,false,false] #[true,true,false,true,true,true,true,true,true,false,false] rfl rfl rfl rfl (il HT_.out (by kernel_rfl)) (by decide) (by decide) (fun K hK=>?_) (fun K hK=>?_)
     · skip
       refine dm Tryz.func52 (by kernel_rfl) rfl #[.int .i64 (wrap64 (Int.tdiv a0 10))] (by rfl) rfl rfl cS ?_
       with_reducible refine(ih k (by omega) (wrap64 (Int.tdiv a0 10)) g1 _ A6.out).mono ?_
       rintro e j5 ⟨rfl,hb⟩;refine⟨_,rfl,?_⟩;replace g0:=a0_ (Kd.R_below (kR_ g0.out) hb);replace HB:=a0_ (aa ay hb)
       (try clear hb)
       (try clear hb2)
       (try clear hk)
       (try clear hi)
       refine hK.out _ _ trivial (fun hHeld=>?_);clear hK K
       refine fi (a':=?_) ?_ ?_
       rotate_left
       · show Act.put _ (some 12) _ = _
         simp only[Act.put,List.setIfInBounds_toArray,List.set_cons_zero,List.set_cons_succ,bu,bI];rfl
       refine lN (i:=8) (N:=some 18) #[true,true,true,true,true,true,true,true,true,false,false] rfl rfl (fY HT_.out (by kernel_rfl)) (by decide) (fun K hK=>?_);have hcv12:=ea (P:=Tryz.prog) Tryz.underlying43 Tryz.underlying5 Tryz.underlying9 (Kd.own_of_R g0.out)
       refine iV (w1:=?_) (v:=?_) (by rfl) rfl ?_ ?_
       rotate_left 2
       · go_simp
         constructor
         ·rfl
         ·rfl
       clear hcv12;refine hK.out _ _ trivial (fun hHeld=>?_);clear hK K
       refine fi (a':=?_) ?_ ?_
       rotate_left
       · show Act.put _ (some 18) _ = _
         simp only[Act.put,List.setIfInBounds_toArray,List.set_cons_zero,List.set_cons_succ,bu,bI];rfl
       exact fi (by simp only[f_,Act.put,List.setIfInBounds_toArray,List.set_cons_zero,List.set_cons_succ]) (hCont (g3) _ ⟨(kR_ g0.out),ay⟩)
     · skip
       have hcv11:=ea (P:=Tryz.prog) Tryz.underlying43 Tryz.underlying5 Tryz.underlying9 (Kd.own_of_R g0.out)
       refine iV (w1:=?_) (v:=?_) (by rfl) rfl ?_ ?_
       rotate_left 2
       · go_simp
         constructor
         ·rfl
         ·rfl
       clear hcv11;refine hK.out _ _ trivial (fun hHeld=>?_);clear hK K
       refine fi (a':=?_) ?_ ?_
       rotate_left
       · show Act.put _ (some 18) _ = _
         simp only[Act.put,List.setIfInBounds_toArray,List.set_cons_zero,List.set_cons_succ,bu,bI];rfl
       refine lN (i:=2) (N:=some 12) #[true,true,true,true,true,true,true,true,true,false,false] rfl rfl (fY HT_.out (by kernel_rfl)) (by decide) (fun K hK=>?_)
       refine dm Tryz.func52 (by kernel_rfl) rfl #[.int .i64 (wrap64 (Int.tdiv a0 10))] (by rfl) rfl rfl cS ?_
       with_reducible refine(ih k (by omega) (wrap64 (Int.tdiv a0 10)) g1 _ A6.out).mono ?_
       rintro e j6 ⟨rfl,hb⟩;refine⟨_,rfl,?_⟩;replace g0:=a0_ (Kd.R_below (kR_ g0.out) hb);replace HB:=a0_ (aa ay hb)
       (try clear hb)
       (try clear hb2)
       (try clear hk)
       (try clear hi)
       refine hK.out _ _ trivial (fun hHeld=>?_);clear hK K
       refine fi (a':=?_) ?_ ?_
       rotate_left
       · show Act.put _ (some 12) _ = _
         simp only[Act.put,List.setIfInBounds_toArray,List.set_cons_zero,List.set_cons_succ,bu,bI];rfl
       exact fi (by simp only[f_,Act.put,List.setIfInBounds_toArray,List.set_cons_zero,List.set_cons_succ]) (hCont (g3) _ ⟨(kR_ g0.out),ay⟩)
 rintro g3 j1 ⟨h0_,h1_⟩;have n0_:ab (Kd.R (Kd.int .u8) 5 j1 w.heap.size (fun _=>True) g3 g2):=⟨h0_⟩;have n1_:ab (Below w.heap.size w j1):=⟨h1_⟩;clear HB;clear h0_ h1_;have g0:=n0_;have HB:=n1_;clear n0_ n1_;have hHeld:=trivial
 refine fi (a':=?_) ?_ ?_
 rotate_left
 · simp only [f_, Act.put, List.setIfInBounds_toArray, List.set_cons_zero, List.set_cons_succ]
   rfl
 refine dE (i:=9) (N:=some 19) (v:=?_) (a':=?_) #[true,true,true,true,true,true,true,true,true,true,false] rfl rfl (fw HT_.out (by kernel_rfl)) (fun _ _ _ h=>h) (Or.inl ⟨by rfl,?_⟩) ?_ ?_
 rotate_left
 · intro w'
   go_simp
   with_reducible rfl
 rotate_left
 · simp only [Act.put, List.setIfInBounds_toArray, List.set_cons_zero, List.set_cons_succ, bu, bI]
   rfl
 refine dE (i:=10) (N:=some 2) (v:=?_) (a':=?_) #[true,true,true,true,true,true,true,true,true,true,true] rfl rfl (fw HT_.out (by kernel_rfl)) (fun _ _ _ h=>h) (Or.inl ⟨by rfl,?_⟩) ?_ ?_
 rotate_left
 · intro w'
   go_simp
   with_reducible rfl
 rotate_left
 · simp only [Act.put, List.setIfInBounds_toArray, List.set_cons_zero, List.set_cons_succ, bu, bI]
   rfl
 refine dZ (db HT_.out (by kernel_rfl)) ?_
 try go_wp2
 go_ret;exact⟨rr_,ay⟩
end Go.Proofs.YtiegkjimpclmaaaGreatDoor.P
namespace Go.Proofs.YtiegkjimpclmaaaGreatDoor.P
theorem bg{p:Prop}(h:p:=by repeat(first|(with_reducible first|exact ab.out (by assumption)|apply ak.alloc|apply ak.drewN|apply ak.drew|apply ak.set_1|apply ak.set_2|refine ak.far ?_ (ab.out (by assumption)) _)|exact ab.out (by assumption))): p:=h
theorem kq_{p:Prop}(h:p:=by repeat(first|(with_reducible first|exact ab.out (by assumption)|apply aJ.set_|apply fq|apply fG|apply fp|refine eJ ?_ (ab.out (by assumption)) _)|exact ab.out (by assumption))): p:=h
theorem kt_{w w1 w2 w3:World}{g:Nat}{row row1:Option Nat}(HK:ab (aJ w w1 g row))(k:aJ w2 w3 g row1)(hr:row1=row∨∃ b,row1=some b∧w.heap.size≤b)(h:aJ w w2 g row:=by repeat(first|(with_reducible first|exact ab.out (by assumption)|apply aJ.set_|apply fq|apply fG|apply fp|refine eJ ?_ (ab.out (by assumption)) _)|exact ab.out (by assumption))): aJ w w3 g row:=h.trans k hr
theorem ca{p:Prop}(h:p:=by repeat(first|(with_reducible first|exact ab.out (by assumption)|apply bF|apply bv|apply bp|refine cz ?_ (ab.out (by assumption))|refine cz ?_ (ak.ge (ab.out (by assumption))))|exact ab.out (by assumption))): p:=h
theorem bz_{p:Prop}(h:p:=by repeat(first|(with_reducible first|exact ab.out (by assumption)|refine aI ?_ _|refine az ?_|refine aE ?_ _|refine dB ?_ (ab.out (by assumption)) _)|exact ab.out (by assumption))): p:=h
theorem kk_{w0 w w1:World}{g g':Nat}{row:Option Nat}{o:Obj}(BK:ab (w0.heap[g']? = some o))(hk:aJ w w1 g row)(hne:g'≠g)(hr:some g'≠row:=by simp)(h:w.heap[g']? = some o:=by(with_reducible repeat(first|refine aI ?_ _|refine az ?_|refine aE ?_ _));exact ab.out (by assumption)): w1.heap[g']? = some o:=aJ.blk hk h hne hr
end Go.Proofs.YtiegkjimpclmaaaGreatDoor.P
namespace Go.Proofs.YtiegkjimpclmaaaGreatDoor.P
attribute [local go_sem] cG cD c_ cZ ci ch cE cH
def cx.f(a0:Int)(a1:Int)(a2:Int): Option (Bool):=if a0≥a1 then(some (decide (a0≤a2)))else(some false)
theorem cx.c(a0:Int)(a1:Int)(a2:Int)(r:Bool)(w:World)(h:cx.f a0 a1 a2=some r):
 Calls Tryz.prog 84 #[.int .i64 a0,.int .i64 a1,.int .i64 a2] w fun e w'=>e = .returned (.bool r)∧cC w w':=by
 have H:=h;clear h;unfold cx.f at H
 by_cases c4:a0≥a1
 case neg=>
  rw[if_neg c4]at H;have c4b0:=decide_eq_false c4;clear c4;obtain rfl:=Option.some.inj H;go_enter Tryz.func84,Tryz.ntmps84;go_wp2;go_ret;exact⟨rs_,dr_⟩
 rw[if_pos c4]at H;have c4b0:=decide_eq_true c4;clear c4;obtain rfl:=Option.some.inj H;go_enter Tryz.func84,Tryz.ntmps84;go_wp2;go_ret;exact⟨rs_,dr_⟩
def df.f(a0:ByteArray): Option (List ByteArray):=if a0.toList=([]:List UInt8)then(some ([]:List ByteArray))else((cM.f a0 (⟨#[46]⟩:ByteArray)).bind fun g0=>(some g0))
theorem df.c(a0:ByteArray)(r:List ByteArray)(w:World)(h:df.f a0=some r):
 Calls Tryz.prog 144 #[.string a0] w fun e w'=> ∃ v0_:Value,e = .returned (v0_)∧Kd.R Kd.string 9 w' w.heap.size (fun _=>True) v0_ r∧Below w.heap.size w w':=by
 have HB:=a0_ (Below.refl w.heap.size w);have H:=h;clear h;unfold df.f at H
 by_cases c2:a0.toList=([]:List UInt8)
 case pos=>
  rw[if_pos c2]at H;have c2b0:=beq_iff_eq.mpr c2;have c2b1:=bne_eq_false_iff_eq.mpr c2;clear c2;obtain rfl:=Option.some.inj H;go_enter Tryz.func144,Tryz.ntmps144;go_wp2;go_ret;exact⟨_,rr_,by first|exact Kd.R_nil _ _ _ _ _|exact Kd.N_nil _ _ _ _ _|exact Kd.V_nil _ _ _ _ _|exact Kd.Q_nil _ _ _ _ _|exact Kd.S_nil _ _ _ _ _,ay⟩
 rw[if_neg c2]at H;have c2b0:=beq_eq_false_iff_ne.mpr c2;have c2b1:=bne_iff_ne.mpr c2;obtain⟨g1,A3,H⟩:=ob_ H;obtain rfl:=Option.some.inj H;go_enter Tryz.func144,Tryz.ntmps144;go_wp2_with (first|((with_reducible refine gt_ 87 rfl ?_);refine gs_ 6 Tryz.func87 #[.string a0,.string (⟨#[46]⟩:ByteArray)] ?_;(with_reducible refine(cM.c a0 (⟨#[46]⟩:ByteArray) g1 _ A3.out).mono ?_);rintro e w4 ⟨g2,rfl,ho0,hb⟩;refine⟨_,rfl,?_⟩;have g0:=a0_ (Kd.R_lower ho0 (aj ay));replace HB:=a0_ (aa ay hb);clear hb;(try clear ho0)));go_ret;exact⟨_,rr_,kR_ g0.out,ay⟩
def aW.l0: Nat→Int→List Int→Int→Option (ByteArray)
 | 0,_,_,_=>none
 | k+1,x0,x5,x6=>if x6≥0 then(if 0≤(wrap64 (8*x6))then(if x5.length<140737488355328 then(aW.l0 k x0 (x5 ++ [(shr .i64 x0 (wrap64 (8*x6)))%256]) (wrap64 (x6-1)))else(none))else(none))else(some (strOfNums x5))
def aW.f(k:Nat)(a0:Int)(a1:Int): Option (ByteArray):=aW.l0 k a0 (([]:List Int)) (wrap64 (a1-1))
theorem aW.mono_l: ∀ k,(∀ y0 y1 y2,LeO (aW.l0 k y0 y1 y2) (aW.l0 (k+1) y0 y1 y2))
 | 0=>fun _ _ _ r h=>by simp[aW.l0]at h
 | k+1=>by
  have ih0:=aW.mono_l k
  · intro y0 y1 y2
    unfold aW.l0
    repeat' first|(with_reducible first|exact ih0 _ _ _|exact LeO.refl _|exact LeO.none _|refine LeO.ite ?_ ?_|refine LeO.bind ?_ (fun _=>?_))|exact LeO.none _|refine LeO.ite ?_ ?_|refine LeO.bind ?_ (fun _=>?_)
theorem aW.m: ∀ a0 a1 k,LeO (aW.f k a0 a1) (aW.f (k+1) a0 a1):=by
 intro a0 a1 k;have ih0:=aW.mono_l k;unfold aW.f
 repeat' first|(with_reducible first|exact ih0 _ _ _|exact LeO.refl _|exact LeO.none _|refine LeO.ite ?_ ?_|refine LeO.bind ?_ (fun _=>?_))|exact LeO.none _|refine LeO.ite ?_ ?_|refine LeO.bind ?_ (fun _=>?_)
theorem aW.c(k:Nat)(a0:Int)(a1:Int)(r:ByteArray)(w:World)(h:aW.f k a0 a1=some r):
 Calls Tryz.prog 89 #[.int .i64 a0,.int .i64 a1] w fun e w'=>e = .returned (.string r)∧Below w.heap.size w w':=by
 have HB:=a0_ (Below.refl w.heap.size w);have H:=h;clear h;unfold aW.f at H;obtain⟨g3,g0⟩:∃ y_:List Int,y_=(([]:List Int)):=⟨_,rfl⟩
 replace H:(aW.l0 k a0 g3 (wrap64 (a1-1)))=some r:=by first|(rw[g0];with_reducible exact H)|(have H2_:=(Option.bind_some _ _).symm.trans H;rw[g0];with_reducible exact H2_)|(have H2_:=(Option.bind_some _ _).symm.trans H;with_reducible exact H2_)|with_reducible exact H|(rw[g0];exact H)|exact H
 have g2:=a0_ g0;clear g0;have H':=a0_ H;clear H;go_enter Tryz.func89,Tryz.ntmps89;go_wp2_with (first|((with_reducible refine ax (N:=7) rfl ?_);refine Kd.R_lit (Kd.int .u8) _ 5 ?hg (N:=7) ?hd (xs:=([]:List Int)) (inner:=[]) (ok:=fun _=>True) (okp:=fun _=>True) ?hr ?hp (fun _ hk=>hk) trivial (Below.refl _ _) (Nat.le_refl _) (by simp) ?_;(case hd=>rfl);(case hg=>rfl);(case hr=>first|(go_simp;done)|(go_simp;rfl));(case hp=>exact(br.none _ _));intro g8 w3 ho4 hb hg_ hnew_;clear hg_ hnew_;(first|rw[← g2.out]at ho4|(simp only[Int.reduceToNat]at ho4;rw[← g2.out]at ho4));have g5:=a0_ (Kd.R_lower ho4 (aj ay));replace HB:=a0_ (aa ay hb);clear hb ho4));go_loopg [5,6] k (fun kq v5 v6 w'=> ∃ (x5_1:List Int) (x6_1:Int),v6 = .int .i64 x6_1∧ab (aW.l0 kq a0 x5_1 x6_1=some r)∧ab (kq≤k)∧ab (Kd.R (Kd.int .u8) 5 w' w.heap.size (fun _=>True) v5 x5_1)∧ab (Below w.heap.size w w'))
 case atStart=>exact⟨(g3),(wrap64 (a1-1)),rs_,H',⟨Nat.le_refl _⟩,⟨kR_ g5.out⟩,⟨ay⟩⟩
 case round=>
  clear H';obtain⟨x5_1,x6_1,rfl,HA,HK1,HO_5,HB⟩:=hrel
  cases gk with
  | zero=>exact absurd HA.out (by simp[aW.l0])
  | succ k1=>
   have H:=HA.out;clear HA;simp only[aW.l0]at H
   by_cases c5:x6_1≥0
   case neg=>
    rw[if_neg c5]at H;have c5b0:=decide_eq_false c5;clear c5;obtain rfl:=Option.some.inj H;have hcv11:=ea (P:=Tryz.prog) Tryz.underlying43 Tryz.underlying5 Tryz.underlying9 (Kd.own_of_R HO_5.out);go_wp2;go_ret;exact⟨rr_,ay⟩
   rw[if_pos c5]at H;have c5b0:=decide_eq_true c5;clear c5;obtain⟨ji6,hji6⟩:∃ j_:Int,(wrap64 (8*x6_1))=j_:=⟨_,rfl⟩
   (first|rw[hji6]at H|simp only[hji6]at H)
   have hji6w:(IntKind.i64.wrap (8*x6_1))=ji6:=(bu _).trans hji6
   by_cases c7:0≤(ji6)
   case neg=>
    rw[if_neg c7]at H;exact absurd H (by simp)
   rw[if_pos c7]at H;have c7b0:=eq_true c7;have c7b1:=decide_eq_true c7;clear c7;obtain⟨ji8,hji8⟩:∃ j_:Int,(shr .i64 a0 (ji6))=j_:=⟨_,rfl⟩
   (first|rw[hji8]at H|simp only[hji8]at H)
   have hji8_:(a0 / 2^min (ji6).toNat 64)=ji8:=hji8;have hji8z:(ji6)≤64→(a0 / 2^(ji6).toNat)=ji8:=pf hji8
   by_cases c9:x5_1.length<140737488355328
   case neg=>
    rw[if_neg c9]at H;exact absurd H (by simp)
   rw[if_pos c9]at H;have LMc9:=a0_ c9;clear c9;obtain⟨g4,g1⟩:∃ y_:List Int,y_=(x5_1 ++ [(ji8)%256]):=⟨_,rfl⟩
   replace H:(aW.l0 k1 a0 g4 (wrap64 (x6_1-1)))=some r:=by first|(rw[g1];with_reducible exact H)|(have H2_:=(Option.bind_some _ _).symm.trans H;rw[g1];with_reducible exact H2_)|(have H2_:=(Option.bind_some _ _).symm.trans H;with_reducible exact H2_)|with_reducible exact H|(rw[g1];exact H)|exact H
   have g6:=a0_ g1;clear g1;have H':=a0_ H;clear H;go_wp2_with (first|((with_reducible refine bz (b:=.append) (xs:=#[.tmp 14,.tmp 20]) rfl ?_);at_builtin;refine Kd.R_append (Kd.int .u8) (w0:=w) w.heap.size rfl (.tmp 14) (.tmp 20) 43 5 (.int .u8 0) 1 rfl Tryz.underlying43 rf rfl (by decide) (by omega) u5 x5_1 ((ji8)%256) [.int .u8 ((ji8)%256)] (fun _=>True) (fun _=>False) rfl rfl ?aP (fun _ hk=>hk.elim) ?aF ?aO ?aB ?aS ?aL ?_;(case aP=>exact rfl);(case aB=>exact ay);(case aF=>exact(fun _ _=>trivial));(case aO=>exact(kR_ HO_5.out));(case aS=>exact(aj ay));(case aL=>have:=LMc9.out;omega);intro g9 j0 ho hb hg hat;rw[← g6.out]at ho;replace HB:=a0_ (hb);have g7:=a0_ (ho);clear HO_5;clear ho hb hg hat));go_roundg k1
   case measure=>have:=HK1.out;omega
   case rel=>exact⟨(g4),(wrap64 (x6_1-1)),rs_,H',jl_ HK1,⟨kR_ g7.out⟩,⟨ay⟩⟩
def eG.f(a0:ByteArray)(a1:ByteArray): Option (Int):=(aV.f a0 a1).bind fun g0=>(some g0)
theorem eG.c(a0:ByteArray)(a1:ByteArray)(r:Int)(w:World)(h:eG.f a0 a1=some r):
 Calls Tryz.prog 189 #[.string a0,.string a1] w fun e w'=>e = .returned (.int .i64 r)∧cC w w':=by
 have H:=h;clear h;unfold eG.f at H;obtain⟨g0,A3,H⟩:=ob_ H;obtain rfl:=Option.some.inj H;go_enter Tryz.func189,Tryz.ntmps189;go_wp2_with (first|((with_reducible refine gt_ 195 rfl ?_);refine gs_ 7 Tryz.func195 #[.string a0,.string a1] ?_;(with_reducible refine(aV.c a0 a1 g0 _ A3.out).mono ?_);rintro e w' ⟨rfl,⟨nd,rfl⟩⟩;refine⟨_,rfl,?_⟩));go_ret;exact⟨rs_,dr_⟩
def cX.f(a0:ByteArray)(a1:ByteArray): Option (ByteArray×ByteArray×Bool):=(aV.f a0 a1).bind fun g0=>(if g0≥0 then(if 0≤g0 then(if g0≤(a0.size:Int)then(if 0≤(wrap64 (g0+(a1.size:Int)))then(if(wrap64 (g0+(a1.size:Int)))≤(a0.size:Int)then(some (a0.extract 0 (g0:Int).toNat,a0.extract ((wrap64 (g0+(a1.size:Int))):Int).toNat a0.size,true))else(none))else(none))else(none))else(none))else(some (a0,(⟨#[]⟩:ByteArray),false)))
theorem cX.c(a0:ByteArray)(a1:ByteArray)(r1:ByteArray)(r2:ByteArray)(r3:Bool)(w:World)(h:cX.f a0 a1=some (r1,r2,r3)):
 Calls Tryz.prog 152 #[.string a0,.string a1] w fun e w'=>e = .returned (.tuple #[.string r1,.string r2,.bool r3])∧cC w w':=by
 have H:=h;clear h;unfold cX.f at H;obtain⟨g0,A3,H⟩:=ob_ H
 by_cases c4:g0≥0
 case neg=>
  rw[if_neg c4]at H;have c4b0:=decide_eq_false c4;clear c4;simp only[Option.some.injEq,Prod.mk.injEq]at H;obtain⟨rfl,rfl,rfl⟩:=H;go_enter Tryz.func152,Tryz.ntmps152;go_wp2_with (first|(go_at_call 195;(with_reducible refine(aV.c a0 a1 g0 _ A3.out).mono ?_);rintro e w' ⟨rfl,⟨nd,rfl⟩⟩;(try first|exact⟨rfl,_,World.drewN_drewN _ _ _⟩|exact⟨rfl,_,Eq.trans (World.drewN_drewN _ _ _) (congrArg (World.drewN _) (Nat.add_assoc _ _ _))⟩)))
  repeat(go_quiet (first|(go_at_call 195;(with_reducible refine(aV.c a0 a1 g0 _ A3.out).mono ?_);rintro e w' ⟨rfl,⟨nd,rfl⟩⟩;(try first|exact⟨rfl,_,World.drewN_drewN _ _ _⟩|exact⟨rfl,_,Eq.trans (World.drewN_drewN _ _ _) (congrArg (World.drewN _) (Nat.add_assoc _ _ _))⟩)));try go_wp2_with (first|(go_at_call 195;(with_reducible refine(aV.c a0 a1 g0 _ A3.out).mono ?_);rintro e w' ⟨rfl,⟨nd,rfl⟩⟩;(try first|exact⟨rfl,_,World.drewN_drewN _ _ _⟩|exact⟨rfl,_,Eq.trans (World.drewN_drewN _ _ _) (congrArg (World.drewN _) (Nat.add_assoc _ _ _))⟩))))
  go_ret3;exact⟨rs_,dr_⟩
 rw[if_pos c4]at H;have c4b0:=decide_eq_true c4;clear c4
 by_cases c5:0≤g0
 case neg=>
  rw[if_neg c5]at H;exact absurd H (by simp)
 rw[if_pos c5]at H;have c5b0:=eq_true c5;have c5b1:=decide_eq_true c5;clear c5
 by_cases c6:g0≤(a0.size:Int)
 case neg=>
  rw[if_neg c6]at H;exact absurd H (by simp)
 rw[if_pos c6]at H;have c6b0:=eq_true c6;have c6b1:=decide_eq_true c6;clear c6;obtain⟨ji7,hji7⟩:∃ j_:Int,(wrap64 (g0+(a1.size:Int)))=j_:=⟨_,rfl⟩
 (first|rw[hji7]at H|simp only[hji7]at H)
 (try rw[hji7]at A3)
 have hji7w:(IntKind.i64.wrap (g0+(a1.size:Int)))=ji7:=(bu _).trans hji7
 by_cases c8:0≤(ji7)
 case neg=>
  rw[if_neg c8]at H;exact absurd H (by simp)
 rw[if_pos c8]at H;have c8b0:=eq_true c8;have c8b1:=decide_eq_true c8;clear c8
 by_cases c9:(ji7)≤(a0.size:Int)
 case neg=>
  rw[if_neg c9]at H;exact absurd H (by simp)
 rw[if_pos c9]at H;have c9b0:=eq_true c9;have c9b1:=decide_eq_true c9;clear c9;simp only[Option.some.injEq,Prod.mk.injEq]at H;obtain⟨rfl,rfl,rfl⟩:=H;go_enter Tryz.func152,Tryz.ntmps152;go_wp2_with (first|(go_at_call 195;(with_reducible refine(aV.c a0 a1 g0 _ A3.out).mono ?_);rintro e w' ⟨rfl,⟨nd,rfl⟩⟩;(try first|exact⟨rfl,_,World.drewN_drewN _ _ _⟩|exact⟨rfl,_,Eq.trans (World.drewN_drewN _ _ _) (congrArg (World.drewN _) (Nat.add_assoc _ _ _))⟩)))
 repeat(go_quiet (first|(go_at_call 195;(with_reducible refine(aV.c a0 a1 g0 _ A3.out).mono ?_);rintro e w' ⟨rfl,⟨nd,rfl⟩⟩;(try first|exact⟨rfl,_,World.drewN_drewN _ _ _⟩|exact⟨rfl,_,Eq.trans (World.drewN_drewN _ _ _) (congrArg (World.drewN _) (Nat.add_assoc _ _ _))⟩)));try go_wp2_with (first|(go_at_call 195;(with_reducible refine(aV.c a0 a1 g0 _ A3.out).mono ?_);rintro e w' ⟨rfl,⟨nd,rfl⟩⟩;(try first|exact⟨rfl,_,World.drewN_drewN _ _ _⟩|exact⟨rfl,_,Eq.trans (World.drewN_drewN _ _ _) (congrArg (World.drewN _) (Nat.add_assoc _ _ _))⟩))))
 go_ret3;exact⟨by first|rfl|(simp;done)|(simp only[← hji7]<;>(first|rfl|simp))|(simp[*];done),dr_⟩
def dX.f(a0:Int): Option (Bool):=if a0<32 then(some true)else(some (decide (a0>126)))
theorem dX.c(a0:Int)(r:Bool)(w:World)(h:dX.f a0=some r):
 Calls Tryz.prog 94 #[.int .u8 a0] w fun e w'=>e = .returned (.bool r)∧cC w w':=by
 have H:=h;clear h;unfold dX.f at H
 by_cases c2:a0<32
 case neg=>
  rw[if_neg c2]at H;have c2b0:=decide_eq_false c2;clear c2;obtain rfl:=Option.some.inj H;go_enter Tryz.func94,Tryz.ntmps94;go_wp2;go_ret;exact⟨rs_,dr_⟩
 rw[if_pos c2]at H;have c2b0:=decide_eq_true c2;clear c2;obtain rfl:=Option.some.inj H;go_enter Tryz.func94,Tryz.ntmps94;go_wp2;go_ret;exact⟨rs_,dr_⟩
def bm.l0: Nat→List Int→Int→Int→Int→Option (Int)
 | 0,_,_,_,_=>none
 | k+1,x0,x1,x7,x8=>if x8<x7 then(if 0≤x8 then(if x8<(x0.length:Int)then(if x1=(rd x0 x8)then(some x8)else(bm.l0 k x0 x1 x7 (wrap64 (x8+1))))else(none))else(none))else(some (-1))
def bm.f(k:Nat)(l0:List Int)(a1:Int): Option (Int):=bm.l0 k l0 a1 (l0.length:Int) 0
theorem bm.c(k:Nat)(A0:Option Addr)(c0:Nat)(l0:List Int)(a1:Int)(r:Int)(w:World)(hr0:Kd.C (Kd.int .i64) w A0 l0.length l0)(hc0:l0.length≤c0)(h:bm.f k l0 a1=some r):
 Calls Tryz.prog 239 #[.slice A0 l0.length c0,.int .i64 a1] w fun e w'=>e = .returned (.int .i64 r)∧cC w w':=by
 have HR0:=a0_ hr0;have HC0:=a0_ hc0;clear hr0 hc0;have H:=h;clear h;unfold bm.f at H;have H':=a0_ H;clear H;go_enter Tryz.func239,Tryz.ntmps239;go_wp2;go_loopg [8] k (fun kq v8 w'=> ∃ (x8_1:Int),v8 = .int .i64 x8_1∧ab (bm.l0 kq l0 a1 (l0.length:Int) x8_1=some r)∧ab (kq≤k)∧cC w w')
 case atStart=>exact⟨(0),rs_,H',⟨Nat.le_refl _⟩,dr_⟩
 case round=>
  clear H';obtain⟨x8_1,rfl,HA,HK1,⟨m1,rfl⟩⟩:=hrel
  cases gk with
  | zero=>exact absurd HA.out (by simp[bm.l0])
  | succ k1=>
   have H:=HA.out;clear HA;simp only[bm.l0]at H
   by_cases c3:x8_1<(l0.length:Int)
   case neg=>
    rw[if_neg c3]at H;have c3b0:=decide_eq_false c3;clear c3;obtain rfl:=Option.some.inj H;go_wp2;go_ret;exact⟨rs_,dr_⟩
   rw[if_pos c3]at H;have c3b0:=decide_eq_true c3;clear c3
   by_cases c4:0≤x8_1
   case neg=>
    rw[if_neg c4]at H;exact absurd H (by simp)
   rw[if_pos c4]at H;have c4b0:=decide_eq_true c4;clear c4
   by_cases c5:x8_1<(l0.length:Int)
   case neg=>
    rw[if_neg c5]at H;exact absurd H (by simp)
   rw[if_pos c5]at H;have c5b0:=decide_eq_true c5;clear c5
   by_cases c6:a1=(rd l0 x8_1)
   case pos=>
    rw[if_pos c6]at H;have c6b0:=beq_iff_eq.mpr c6;have c6b1:=bne_eq_false_iff_eq.mpr c6;clear c6;obtain rfl:=Option.some.inj H;have g0:=t0_ (x8_1);have g1:=tl_ (x8_1) (l0.length);obtain⟨g4,g2,g3⟩:=Kd.at_int HR0.out x8_1 (of_eq_true g0) (of_eq_true g1);cases g2;go_wp2;go_ret;exact⟨rs_,dr_⟩
   rw[if_neg c6]at H;have c6b0:=beq_eq_false_iff_ne.mpr c6;have c6b1:=bne_iff_ne.mpr c6;have H':=a0_ H;clear H;have g0:=t0_ (x8_1);have g1:=tl_ (x8_1) (l0.length);obtain⟨g4,g2,g3⟩:=Kd.at_int HR0.out x8_1 (of_eq_true g0) (of_eq_true g1);cases g2;go_wp2;go_roundg k1
   case measure=>have:=HK1.out;omega
   case rel=>exact⟨(wrap64 (x8_1+1)),rs_,H',jl_ HK1,dr_⟩
def aQ.l0: Nat→ByteArray→Int→List ByteArray→Int→Int→Option (List ByteArray)
 | 0,_,_,_,_,_=>none
 | k+1,x0,x1,x5,x6,x7=>if x7<(x0.size:Int)then(if 0≤x7 then(if(bt x0 x7)=x1 then(if 0≤x6 then(if x6≤x7 then(if x7≤(x0.size:Int)then(if x5.length<8796093022208 then(aQ.l0 k x0 x1 (x5 ++ [x0.extract (x6:Int).toNat (x7:Int).toNat]) (wrap64 (x7+1)) (wrap64 (x7+1)))else(none))else(none))else(none))else(none))else(aQ.l0 k x0 x1 x5 x6 (wrap64 (x7+1))))else(none))else(if 0≤x6 then(if x6≤(x0.size:Int)then(if x5.length<8796093022208 then(some (x5 ++ [x0.extract (x6:Int).toNat x0.size]))else(none))else(none))else(none))
def aQ.f(k:Nat)(a0:ByteArray)(a1:Int): Option (List ByteArray):=aQ.l0 k a0 a1 ([]:List ByteArray) 0 0
theorem aQ.mono_l: ∀ k,(∀ y0 y1 y2 y3 y4,LeO (aQ.l0 k y0 y1 y2 y3 y4) (aQ.l0 (k+1) y0 y1 y2 y3 y4))
 | 0=>fun _ _ _ _ _ r h=>by simp[aQ.l0]at h
 | k+1=>by
  have ih0:=aQ.mono_l k
  · intro y0 y1 y2 y3 y4
    unfold aQ.l0
    repeat' first|(with_reducible first|exact ih0 _ _ _ _ _|exact LeO.refl _|exact LeO.none _|refine LeO.ite ?_ ?_|refine LeO.bind ?_ (fun _=>?_))|exact LeO.none _|refine LeO.ite ?_ ?_|refine LeO.bind ?_ (fun _=>?_)
theorem aQ.m: ∀ a0 a1 k,LeO (aQ.f k a0 a1) (aQ.f (k+1) a0 a1):=by
 intro a0 a1 k;have ih0:=aQ.mono_l k;unfold aQ.f
 repeat' first|(with_reducible first|exact ih0 _ _ _ _ _|exact LeO.refl _|exact LeO.none _|refine LeO.ite ?_ ?_|refine LeO.bind ?_ (fun _=>?_))|exact LeO.none _|refine LeO.ite ?_ ?_|refine LeO.bind ?_ (fun _=>?_)
theorem aQ.c(k:Nat)(a0:ByteArray)(a1:Int)(r:List ByteArray)(w:World)(h:aQ.f k a0 a1=some r):
 Calls Tryz.prog 116 #[.string a0,.int .u8 a1] w fun e w'=> ∃ v0_:Value,e = .returned (v0_)∧Kd.R Kd.string 9 w' w.heap.size (fun _=>True) v0_ r∧Below w.heap.size w w':=by
 have HB:=a0_ (Below.refl w.heap.size w);have H:=h;clear h;unfold aQ.f at H;have H':=a0_ H;clear H;go_enter Tryz.func116,Tryz.ntmps116;go_wp2;go_loopg [5,6,7] k (fun kq v5 v6 v7 w'=> ∃ (x5_1:List ByteArray) (x6_1:Int) (x7_1:Int),v6 = .int .i64 x6_1∧v7 = .int .i64 x7_1∧ab (aQ.l0 kq a0 a1 x5_1 x6_1 x7_1=some r)∧ab (kq≤k)∧ab (Kd.R Kd.string 9 w' w.heap.size (fun _=>True) v5 x5_1)∧ab (Below w.heap.size w w'))
 case atStart=>exact⟨(([]:List ByteArray)),(0),(0),rs_,rs_,H',⟨Nat.le_refl _⟩,⟨by first|exact Kd.R_nil _ _ _ _ _|exact Kd.N_nil _ _ _ _ _|exact Kd.V_nil _ _ _ _ _|exact Kd.Q_nil _ _ _ _ _|exact Kd.S_nil _ _ _ _ _⟩,⟨ay⟩⟩
 case round=>
  clear H';obtain⟨x5_1,x6_1,x7_1,rfl,rfl,HA,HK1,HO_5,HB⟩:=hrel
  cases gk with
  | zero=>exact absurd HA.out (by simp[aQ.l0])
  | succ k1=>
   have H:=HA.out;clear HA;simp only[aQ.l0]at H
   by_cases c3:x7_1<(a0.size:Int)
   case neg=>
    rw[if_neg c3]at H;have c3b0:=decide_eq_false c3;clear c3
    by_cases g2:0≤x6_1
    case neg=>
     rw[if_neg g2]at H;exact absurd H (by simp)
    rw[if_pos g2]at H;have j3:=eq_true g2;have j4:=decide_eq_true g2;clear g2
    by_cases g3:x6_1≤(a0.size:Int)
    case neg=>
     rw[if_neg g3]at H;exact absurd H (by simp)
    rw[if_pos g3]at H;have j5:=eq_true g3;have j6:=decide_eq_true g3;clear g3
    by_cases g4:x5_1.length<8796093022208
    case neg=>
     rw[if_neg g4]at H;exact absurd H (by simp)
    rw[if_pos g4]at H;have g6:=a0_ g4;clear g4;obtain⟨j7,g0⟩:∃ y_:List ByteArray,y_=(x5_1 ++ [a0.extract (x6_1:Int).toNat a0.size]):=⟨_,rfl⟩;rw[← g0]at H;have g7:=a0_ g0;clear g0;obtain rfl:=Option.some.inj H;go_wp2_with (first|((with_reducible refine bz (b:=.append) (xs:=#[.tmp 28,.tmp 32]) rfl ?_);at_builtin;refine Kd.R_append Kd.string (w0:=w) w.heap.size rfl (.tmp 28) (.tmp 32) 78 9 (.string ⟨#[]⟩) 16 rfl Tryz.underlying78 jd rfl (by decide) (by omega) u5 x5_1 (a0.extract (x6_1:Int).toNat a0.size) [.string (a0.extract (x6_1:Int).toNat a0.size)] (fun _=>True) (fun _=>False) rfl rfl ?aP (fun _ hk=>hk.elim) ?aF ?aO ?aB ?aS ?aL ?_;(case aP=>exact rfl);(case aB=>exact ay);(case aF=>exact(fun _ _=>trivial));(case aO=>exact(kR_ HO_5.out));(case aS=>exact(aj ay));(case aL=>have:=g6.out;omega);intro j8 y0 ho hb hg hat;rw[← g7.out]at ho;replace HB:=a0_ (hb);have g8:=a0_ (ho);clear HO_5;clear ho hb hg hat));go_ret;exact⟨_,rr_,kR_ g8.out,ay⟩
   rw[if_pos c3]at H;have c3b0:=decide_eq_true c3;clear c3
   by_cases c4:0≤x7_1
   case neg=>
    rw[if_neg c4]at H;exact absurd H (by simp)
   rw[if_pos c4]at H;have c4b0:=decide_eq_true c4;clear c4
   by_cases c6:(bt a0 x7_1)=a1
   case neg=>
    rw[if_neg c6]at H;have c6b0:=beq_eq_false_iff_ne.mpr c6;have c6b1:=bne_iff_ne.mpr c6;have H':=a0_ H;clear H;have p5:=t0_ (x7_1);have q5:=tl_ (x7_1) (a0.size);have hx5:=cK a0 x7_1;go_wp2;go_roundg k1
    case measure=>have:=HK1.out;omega
    case rel=>exact⟨(x5_1),(x6_1),(wrap64 (x7_1+1)),rs_,rs_,H',jl_ HK1,⟨kR_ HO_5.out⟩,⟨ay⟩⟩
   rw[if_pos c6]at H;have c6b0:=beq_iff_eq.mpr c6;have c6b1:=bne_eq_false_iff_eq.mpr c6;clear c6
   by_cases c7:0≤x6_1
   case neg=>
    rw[if_neg c7]at H;exact absurd H (by simp)
   rw[if_pos c7]at H;have c7b0:=eq_true c7;have c7b1:=decide_eq_true c7;clear c7
   by_cases c8:x6_1≤x7_1
   case neg=>
    rw[if_neg c8]at H;exact absurd H (by simp)
   rw[if_pos c8]at H;have c8b0:=eq_true c8;have c8b1:=decide_eq_true c8;clear c8
   by_cases c9:x7_1≤(a0.size:Int)
   case neg=>
    rw[if_neg c9]at H;exact absurd H (by simp)
   rw[if_pos c9]at H;have c9b0:=eq_true c9;have c9b1:=decide_eq_true c9;clear c9
   by_cases g5:x5_1.length<8796093022208
   case neg=>
    rw[if_neg g5]at H;exact absurd H (by simp)
   rw[if_pos g5]at H;have g9:=a0_ g5;clear g5;obtain⟨j2,g1⟩:∃ y_:List ByteArray,y_=(x5_1 ++ [a0.extract (x6_1:Int).toNat (x7_1:Int).toNat]):=⟨_,rfl⟩;rw[← g1]at H;have j0:=a0_ g1;clear g1;have H':=a0_ H;clear H;have p5:=t0_ (x7_1);have q5:=tl_ (x7_1) (a0.size);have hx5:=cK a0 x7_1;go_wp2_with (first|((with_reducible refine bz (b:=.append) (xs:=#[.tmp 19,.tmp 24]) rfl ?_);at_builtin;refine Kd.R_append Kd.string (w0:=w) w.heap.size rfl (.tmp 19) (.tmp 24) 78 9 (.string ⟨#[]⟩) 16 rfl Tryz.underlying78 jd rfl (by decide) (by omega) u5 x5_1 (a0.extract (x6_1:Int).toNat (x7_1:Int).toNat) [.string (a0.extract (x6_1:Int).toNat (x7_1:Int).toNat)] (fun _=>True) (fun _=>False) rfl rfl ?aP (fun _ hk=>hk.elim) ?aF ?aO ?aB ?aS ?aL ?_;(case aP=>exact rfl);(case aB=>exact ay);(case aF=>exact(fun _ _=>trivial));(case aO=>exact(kR_ HO_5.out));(case aS=>exact(aj ay));(case aL=>have:=g9.out;omega);intro j9 y1 ho hb hg hat;rw[← j0.out]at ho;replace HB:=a0_ (hb);have j1:=a0_ (ho);clear HO_5;clear ho hb hg hat));go_roundg k1
   case measure=>have:=HK1.out;omega
   case rel=>exact⟨(j2),(wrap64 (x7_1+1)),(wrap64 (x7_1+1)),rs_,rs_,H',jl_ HK1,⟨kR_ j1.out⟩,⟨ay⟩⟩
def cj.f(a0:Int)(a1:Int)(a2:Int): Option (Bool):=if a0≥a1 then(some (decide (a0≤a2)))else(some false)
theorem cj.c(a0:Int)(a1:Int)(a2:Int)(r:Bool)(w:World)(h:cj.f a0 a1 a2=some r):
 Calls Tryz.prog 102 #[.int .i64 a0,.int .i64 a1,.int .i64 a2] w fun e w'=>e = .returned (.bool r)∧cC w w':=by
 have H:=h;clear h;unfold cj.f at H
 by_cases c4:a0≥a1
 case neg=>
  rw[if_neg c4]at H;have c4b0:=decide_eq_false c4;clear c4;obtain rfl:=Option.some.inj H;go_enter Tryz.func102,Tryz.ntmps102;go_wp2;go_ret;exact⟨rs_,dr_⟩
 rw[if_pos c4]at H;have c4b0:=decide_eq_true c4;clear c4;obtain rfl:=Option.some.inj H;go_enter Tryz.func102,Tryz.ntmps102;go_wp2;go_ret;exact⟨rs_,dr_⟩
def ce.f(a0_0:Int)(a0_1:Bool)(a0_2:Bool)(a0_3:Int)(a0_4:ByteArray)(a0_5:Int)(l0_6:List (S45))(l0_7:List (S45)): Option (Int×Bool×Bool×Int×ByteArray×Int×(List (S45))×(List (S45))):=(dt.f l0_6).bind fun g0=>((dt.f l0_7).bind fun g1=>(some (a0_0,a0_1,a0_2,a0_3,a0_4,a0_5,g0,g1)))
def ce.T1: Bool×List (List Nat×List Nat):=(true,[([],[]),([0],[0]),([1],[1]),([],[]),([3],[3]),([4,2],[4]),([0,1,2,3,4],[]),([6,2,5,0,1,2,3,4],[2,6]),([0,1,2,3,4,5,6,7],[]),([8,5,7,0,1,2,3,4,5,6,7],[5,8])])
def ce.B1: List Nat:=[0,1,3,0,8,31,31,127,255,511]
theorem ce.tab1: eA .any (fc Tryz.f107 1)=ce.T1:=by kernel_rfl
theorem ce.bits1: du ce.T1.2 ce.B1=true:=by kernel_rfl
theorem ce.c(a0_0:Int)(a0_1:Bool)(a0_2:Bool)(a0_3:Int)(a0_4:ByteArray)(a0_5:Int)(A0_6:Option Addr)(c0_6:Nat)(l0_6:List (S45))(A0_7:Option Addr)(c0_7:Nat)(l0_7:List (S45))(r1:Int)(r2:Bool)(r3:Bool)(r4:Int)(r5:ByteArray)(r6:Int)(r7:List (S45))(r8:List (S45))(w:World)(hr0_6:Kd.C k45 w A0_6 l0_6.length l0_6)(hc0_6:l0_6.length≤c0_6)(hr0_7:Kd.C k45 w A0_7 l0_7.length l0_7)(hc0_7:l0_7.length≤c0_7)(h:ce.f a0_0 a0_1 a0_2 a0_3 a0_4 a0_5 l0_6 l0_7=some (r1,r2,r3,r4,r5,r6,r7,r8)):
 Calls Tryz.prog 107 #[.agg #[.int .i64 a0_0,.bool a0_1,.bool a0_2,.int .i64 a0_3,.string a0_4,.int .i64 a0_5,.slice A0_6 l0_6.length c0_6,.slice A0_7 l0_7.length c0_7]] w fun e w'=> ∃ v6_ v7_:Value,e = .returned (.agg #[.int .i64 r1,.bool r2,.bool r3,.int .i64 r4,.string r5,.int .i64 r6,v6_,v7_])∧Kd.R k45 45 w' w.heap.size (fun k_=>some k_≠(v7_:Value).ownBlock) v6_ r7∧Kd.R k45 45 w' w.heap.size (fun k_=>some k_≠(v6_:Value).ownBlock) v7_ r8∧Below w.heap.size w w':=by
 have hu62:=Tryz.underlying62;have HR0_6:=a0_ hr0_6;have HC0_6:=a0_ hc0_6;clear hr0_6 hc0_6;have HR0_7:=a0_ hr0_7;have HC0_7:=a0_ hc0_7;clear hr0_7 hc0_7;have HB:=a0_ (Below.refl w.heap.size w);have H:=h;clear h;unfold ce.f at H;obtain⟨g7,A2,H⟩:=ob_ H;obtain⟨g8,A3,H⟩:=ob_ H;simp only[Option.some.injEq,Prod.mk.injEq]at H;obtain⟨rfl,rfl,rfl,rfl,rfl,rfl,rfl,rfl⟩:=H;go_enter Tryz.func107,Tryz.ntmps107
 try go_wp2_with (first|((with_reducible refine ax (N:=1) rfl ?_);refine cm 1 #[.int .i64 a0_0,.bool a0_1,.bool a0_2,.int .i64 a0_3,.string a0_4,.int .i64 a0_5,.slice A0_6 l0_6.length c0_6,.slice A0_7 l0_7.length c0_7] 62 (fun g1 hg w4 hbox hb=>?_);have g0:=a0_ (hbox);have j2:=a0_ (gw_ hg:w.heap.size≤g1);replace HB:=a0_ (aa ay hb);have j5:=j2;clear hb hbox hg)|((with_reducible refine ax (N:=2) rfl ?_);refine cm 2 #[.int .i64 0,.bool false,.bool false,.int .i64 0,.string (⟨#[]⟩:ByteArray),.int .i64 0,.slice none 0 0,.slice none 0 0] 62 (fun g2 hg w5 hbox hb=>?_);have g3:=a0_ (hbox);have j3:=a0_ (gw_ hg (aj aD):w.heap.size≤g2);replace HB:=a0_ (aa aD hb);have g5:=a0_ ((by rw[hg];exact Nat.ne_of_lt (cB (g:=g1) (o:=.cells #[.int .i64 a0_0,.bool a0_1,.bool a0_2,.int .i64 a0_3,.string a0_4,.int .i64 a0_5,.slice A0_6 l0_6.length c0_6,.slice A0_7 l0_7.length c0_7] 62 (0,0)) (kB_ g0.out)):g1≠g2));have g4:=a0_ ((by rw[hg];exact Nat.ne_of_gt (cB (g:=g1) (o:=.cells #[.int .i64 a0_0,.bool a0_1,.bool a0_2,.int .i64 a0_3,.string a0_4,.int .i64 a0_5,.slice A0_6 l0_6.length c0_6,.slice A0_7 l0_7.length c0_7] 62 (0,0)) (kB_ g0.out)):g2≠g1));replace g0:=a0_ (bq g0 hb);have j6:=j3;clear hb hbox hg))
 replace g0:=a0_ (az g0.out);replace g3:=a0_ (az g3.out);replace HB:=a0_ (bp HB.out)
 refine gl (n:=10) (S:=fun w'=>w'.cell? ⟨g1,0,none⟩=some (.int .i64 a0_0)∧w'.cell? ⟨g1,1,none⟩=some (.bool a0_1)∧w'.cell? ⟨g1,2,none⟩=some (.bool a0_2)∧w'.cell? ⟨g1,3,none⟩=some (.int .i64 a0_3)∧w'.cell? ⟨g1,4,none⟩=some (.string a0_4)∧w'.cell? ⟨g1,5,none⟩=some (.int .i64 a0_5)∧w'.cell? ⟨g1,6,none⟩=some (.slice A0_6 l0_6.length c0_6)∧w'.cell? ⟨g1,7,none⟩=some (.slice A0_7 l0_7.length c0_7)) (ds:=[7,9]) #[false,false,false,false,false,false,false,false,false,false] (by kernel_rfl) rfl rfl ⟨(af g0.out 0).trans rfl,(af g0.out 1).trans rfl,(af g0.out 2).trans rfl,(af g0.out 3).trans rfl,(af g0.out 4).trans rfl,(af g0.out 5).trans rfl,(af g0.out 6).trans rfl,(af g0.out 7).trans rfl⟩ (fun hHeld=>?_);refine ck ce.tab1 ce.bits1 (fun HT_ HW_=>?_)
 generalize w5.drew=w6 at g0 g3 HB hHeld ⊢
 refine p_ 0 3 ?_
 refine p_ 3 6 ?_
 refine t_ 1 4 ?_
 refine t_ 4 7 ?_
 refine dg 2 (some 5) (fun K hK=>?_)
 refine dm Tryz.func164 (by kernel_rfl) rfl #[.slice A0_6 l0_6.length c0_6] (by rfl) rfl rfl cS ?_
 with_reducible refine(dt.c _ _ l0_6 g7 _ ?side1 ?side2 A2.out).mono ?_
 (case side1=>exact kC_ HR0_6.out HB.out)
 (case side2=>exact HC0_6.out)
 rintro e w7 ⟨j7,rfl,ho0,hb⟩;refine⟨_,rfl,?_⟩;have g6:=a0_ (Kd.R_lower ho0 (aj aD));replace g0:=a0_ (bq g0 hb);replace g3:=a0_ (bq g3 hb);replace HB:=a0_ (aa aD hb)
 (try clear hb)
 (try clear hb2)
 (try clear hk)
 (try clear hi)
 (try clear ho0)
 refine hK.out _ _ ⟨(af g0.out 0).trans rfl,(af g0.out 1).trans rfl,(af g0.out 2).trans rfl,(af g0.out 3).trans rfl,(af g0.out 4).trans rfl,(af g0.out 5).trans rfl,(af g0.out 6).trans rfl,(af g0.out 7).trans rfl⟩ (fun hHeld=>?_);clear hK K
 refine cU ?_
 refine p_ 6 9 ?_
 refine dg 5 (some 8) (fun K hK=>?_)
 refine dm Tryz.func164 (by kernel_rfl) rfl #[.slice A0_7 l0_7.length c0_7] (by rfl) rfl rfl cS ?_
 with_reducible refine(dt.c _ _ l0_7 g8 _ ?side1 ?side2 A3.out).mono ?_
 (case side1=>exact kC_ HR0_7.out HB.out)
 (case side2=>exact HC0_7.out)
 rintro e w8 ⟨j8,rfl,ho0,hb⟩;refine⟨_,rfl,?_⟩;have n0_:=a0_ (Kd.R_elder' (kR_ g6.out) (Kd.R_base ho0) hb);have n1_:=a0_ (Kd.R_lower (Kd.R_new' ho0 (Kd.R_lt (kR_ g6.out))) (aj aD));have n2_:=a0_ (bq g0 hb);have n3_:=a0_ (bq g3 hb);have n4_:=a0_ (aa aD hb);clear g6;clear g0;clear g3;clear HB;have g6:=n0_;have j1:=n1_;have g0:=n2_;have g3:=n3_;have HB:=n4_;clear n0_ n1_ n2_ n3_ n4_
 (try clear hb)
 (try clear hb2)
 (try clear hk)
 (try clear hi)
 (try clear ho0)
 obtain⟨Ao9,co9,eo9⟩:=Kd.R_slice g6.out
 (first|subst eo9|(injection eo9 with f1_ f2_ f3_;have f4_:=f1_.symm;have f5_:=f3_.symm;clear f1_ f2_ f3_;subst f4_;subst f5_))
 obtain⟨g9,j0,j4⟩:=Kd.R_slice j1.out
 (first|subst j4|(injection j4 with f1_ f2_ f3_;have f4_:=f1_.symm;have f5_:=f3_.symm;clear f1_ f2_ f3_;subst f4_;subst f5_))
 refine hK.out _ _ ⟨(af g0.out 0).trans rfl,(af g0.out 1).trans rfl,(af g0.out 2).trans rfl,(af g0.out 3).trans rfl,(af g0.out 4).trans rfl,(af g0.out 5).trans rfl,(af g0.out 6).trans rfl,(af g0.out 7).trans rfl⟩ (fun hHeld=>?_);clear hK K
 refine cU ?_
 refine mF (i:=7) (N:=none) #[true,true,true,true,true,true,true,true,false,false] rfl rfl (fY HT_.out (by kernel_rfl)) (by decide) (fun K hK=>?_);have hs10:w8.cell? ⟨g1,6,none⟩=some (.slice A0_6 l0_6.length c0_6):=(af g0.out 6).trans rfl;have hfs10:=cr g0.out 6;have hns10_1:=g4.out;have hms10_1:=g5.out
 refine lf (w1:=?_) (by rfl) rfl ?_ ?_
 rotate_left
 · go_simp
   rfl
 refine hK.out _ _ ?_
 clear hK K
 refine p_ 8 10 ?_
 refine mF (i:=9) (N:=none) #[true,true,true,true,true,true,true,true,true,true] rfl rfl (fY HT_.out (by kernel_rfl)) (by decide) (fun K hK=>?_);have hs12:w8.cell? ⟨g1,7,none⟩=some (.slice A0_7 l0_7.length c0_7):=(af g0.out 7).trans rfl;have hfs12:=cr g0.out 7;have hns12_1:=g4.out;have hms12_1:=g5.out
 refine lf (w1:=?_) (by rfl) rfl ?_ ?_
 rotate_left
 · go_simp
   rfl
 refine hK.out _ _ ?_
 clear hK K
 refine dZ (db HT_.out (by kernel_rfl)) ?_
 have j9:=g5.out;have y0:=g4.out;obtain⟨_,_,_,_,_,_,_,_,_,_,_,_,_,_,_,_⟩:=bT g0.out;obtain⟨_,_,_,_,_,_,_,_,_,_,_,_,_,_,_,_⟩:=bT g3.out
 try go_wp2
 refine bodyPost_ret (results_cell_row rfl _ _ g2 62 #[.int .i64 a0_0,.bool a0_1,.bool a0_2,.int .i64 a0_3,.string a0_4,.int .i64 a0_5,.slice Ao9 g7.length co9,.slice g9 g8.length j0] (0,0) _ rfl (by(with_reducible repeat(first|refine aI ?_ _|refine az ?_|refine aE ?_ _));refine bE (cs:=#[.int .i64 a0_0,.bool a0_1,.bool a0_2,.int .i64 a0_3,.string a0_4,.int .i64 a0_5,.slice Ao9 g7.length co9,.slice none 0 0]) ?_ 7 _ rfl;(with_reducible repeat(first|refine aI ?_ _|refine az ?_|refine aE ?_ _));refine bE (cs:=#[.int .i64 a0_0,.bool a0_1,.bool a0_2,.int .i64 a0_3,.string a0_4,.int .i64 a0_5,.slice none 0 0,.slice none 0 0]) ?_ 6 _ rfl;(with_reducible repeat(first|refine aI ?_ _|refine az ?_|refine aE ?_ _));refine bE (cs:=#[.int .i64 a0_0,.bool a0_1,.bool a0_2,.int .i64 a0_3,.string a0_4,.int .i64 0,.slice none 0 0,.slice none 0 0]) ?_ 5 _ rfl;(with_reducible repeat(first|refine aI ?_ _|refine az ?_|refine aE ?_ _));refine bE (cs:=#[.int .i64 a0_0,.bool a0_1,.bool a0_2,.int .i64 a0_3,.string (⟨#[]⟩:ByteArray),.int .i64 0,.slice none 0 0,.slice none 0 0]) ?_ 4 _ rfl;(with_reducible repeat(first|refine aI ?_ _|refine az ?_|refine aE ?_ _));refine bE (cs:=#[.int .i64 a0_0,.bool a0_1,.bool a0_2,.int .i64 0,.string (⟨#[]⟩:ByteArray),.int .i64 0,.slice none 0 0,.slice none 0 0]) ?_ 3 _ rfl;(with_reducible repeat(first|refine aI ?_ _|refine az ?_|refine aE ?_ _));refine bE (cs:=#[.int .i64 a0_0,.bool a0_1,.bool false,.int .i64 0,.string (⟨#[]⟩:ByteArray),.int .i64 0,.slice none 0 0,.slice none 0 0]) ?_ 2 _ rfl;(with_reducible repeat(first|refine aI ?_ _|refine az ?_|refine aE ?_ _));refine bE (cs:=#[.int .i64 a0_0,.bool false,.bool false,.int .i64 0,.string (⟨#[]⟩:ByteArray),.int .i64 0,.slice none 0 0,.slice none 0 0]) ?_ 1 _ rfl;(with_reducible repeat(first|refine aI ?_ _|refine az ?_|refine aE ?_ _));refine bE (cs:=#[.int .i64 0,.bool false,.bool false,.int .i64 0,.string (⟨#[]⟩:ByteArray),.int .i64 0,.slice none 0 0,.slice none 0 0]) ?_ 0 _ rfl;(with_reducible repeat(first|refine aI ?_ _|refine az ?_|refine aE ?_ _));refine dB ?_ g4.out _;(with_reducible repeat(first|refine aI ?_ _|refine az ?_|refine aE ?_ _));refine dB ?_ g4.out _;(with_reducible repeat(first|refine aI ?_ _|refine az ?_|refine aE ?_ _));exact g3.out) Tryz.underlying62 rfl (by kernel_rfl)) rfl ?_
 exact⟨_,_,rr_,by(with_reducible repeat(first|apply Kd.R_alloc|apply Kd.R_drewN|apply Kd.R_drew));exact Kd.R_mono (Kd.R_far (p:=⟨g2,7,none⟩) (Kd.R_far (p:=⟨g2,6,none⟩) (Kd.R_far (p:=⟨g2,5,none⟩) (Kd.R_far (p:=⟨g2,4,none⟩) (fX g2 (Kd.R_far (p:=⟨g1,7,none⟩) (Kd.R_far (p:=⟨g1,6,none⟩) (Kd.R_types (Kd.R_types g6.out g0.out (by decide)) g3.out (by decide)) (fun _ hk=>hk.1.2) (.slice Ao9 g7.length co9)) (fun _ hk=>hk.1.2) (.slice g9 g8.length j0)) (fun _ hk=>hk.2) (.int .i64 a0_0) (.bool a0_1) (.bool a0_2) (.int .i64 a0_3)) (fun _ hk=>hk.2) (.string a0_4)) (fun _ hk=>hk.2) (.int .i64 a0_5)) (fun _ hk=>hk.2) (.slice Ao9 g7.length co9)) (fun _ hk=>hk.2) (.slice g9 g8.length j0)) (fun _ hk=>hk.1.1.2),by(with_reducible repeat(first|apply Kd.R_alloc|apply Kd.R_drewN|apply Kd.R_drew));exact Kd.R_mono (Kd.R_far (p:=⟨g2,7,none⟩) (Kd.R_far (p:=⟨g2,6,none⟩) (Kd.R_far (p:=⟨g2,5,none⟩) (Kd.R_far (p:=⟨g2,4,none⟩) (fX g2 (Kd.R_far (p:=⟨g1,7,none⟩) (Kd.R_far (p:=⟨g1,6,none⟩) (Kd.R_types (Kd.R_types j1.out g0.out (by decide)) g3.out (by decide)) (fun _ hk=>hk.1.2) (.slice Ao9 g7.length co9)) (fun _ hk=>hk.1.2) (.slice g9 g8.length j0)) (fun _ hk=>hk.2) (.int .i64 a0_0) (.bool a0_1) (.bool a0_2) (.int .i64 a0_3)) (fun _ hk=>hk.2) (.string a0_4)) (fun _ hk=>hk.2) (.int .i64 a0_5)) (fun _ hk=>hk.2) (.slice Ao9 g7.length co9)) (fun _ hk=>hk.2) (.slice g9 g8.length j0)) (fun _ hk=>hk.1.1.2),aD⟩
def bN.l0: Nat→Int→List Int→Int→Int→Option (Int)
 | 0,_,_,_,_=>none
 | k+1,x3,x6,x7,x8=>if x8<x7 then(if 0≤x8 then(if x8<(x6.length:Int)then(if(rd x6 x8)=x3 then(bN.l0 k x3 x6 x7 (wrap64 (x8+1)))else(some (rd x6 x8)))else(none))else(none))else(some x3)
def bN.f(k:Nat)(l0:List Int): Option (Int):=bN.l0 k 0 l0 (l0.length:Int) 0
theorem bN.mono_l: ∀ k,(∀ y0 y1 y2 y3,LeO (bN.l0 k y0 y1 y2 y3) (bN.l0 (k+1) y0 y1 y2 y3))
 | 0=>fun _ _ _ _ r h=>by simp[bN.l0]at h
 | k+1=>by
  have ih0:=bN.mono_l k
  · intro y0 y1 y2 y3
    unfold bN.l0
    repeat' first|(with_reducible first|exact ih0 _ _ _ _|exact LeO.refl _|exact LeO.none _|refine LeO.ite ?_ ?_|refine LeO.bind ?_ (fun _=>?_))|exact LeO.none _|refine LeO.ite ?_ ?_|refine LeO.bind ?_ (fun _=>?_)
theorem bN.m: ∀ a0 k,LeO (bN.f k a0) (bN.f (k+1) a0):=by
 intro a0 k;have ih0:=bN.mono_l k;unfold bN.f
 repeat' first|(with_reducible first|exact ih0 _ _ _ _|exact LeO.refl _|exact LeO.none _|refine LeO.ite ?_ ?_|refine LeO.bind ?_ (fun _=>?_))|exact LeO.none _|refine LeO.ite ?_ ?_|refine LeO.bind ?_ (fun _=>?_)
theorem bN.c(k:Nat)(A0:Option Addr)(c0:Nat)(l0:List Int)(r:Int)(w:World)(hr0:Kd.C (Kd.int .i64) w A0 l0.length l0)(hc0:l0.length≤c0)(h:bN.f k l0=some r):
 Calls Tryz.prog 131 #[.slice A0 l0.length c0] w fun e w'=>e = .returned (.int .i64 r)∧cC w w':=by
 have HR0:=a0_ hr0;have HC0:=a0_ hc0;clear hr0 hc0;have H:=h;clear h;unfold bN.f at H;have H':=a0_ H;clear H;go_enter Tryz.func131,Tryz.ntmps131;go_wp2;go_loopg [8] k (fun kq v8 w'=> ∃ (x8_1:Int),v8 = .int .i64 x8_1∧ab (bN.l0 kq 0 l0 (l0.length:Int) x8_1=some r)∧ab (kq≤k)∧cC w w')
 case atStart=>exact⟨(0),rs_,H',⟨Nat.le_refl _⟩,dr_⟩
 case round=>
  clear H';obtain⟨x8_1,rfl,HA,HK1,⟨m1,rfl⟩⟩:=hrel
  cases gk with
  | zero=>exact absurd HA.out (by simp[bN.l0])
  | succ k1=>
   have H:=HA.out;clear HA;simp only[bN.l0]at H
   by_cases c2:x8_1<(l0.length:Int)
   case neg=>
    rw[if_neg c2]at H;have c2b0:=decide_eq_false c2;clear c2;obtain rfl:=Option.some.inj H;go_wp2;go_ret;exact⟨rs_,dr_⟩
   rw[if_pos c2]at H;have c2b0:=decide_eq_true c2;clear c2
   by_cases c3:0≤x8_1
   case neg=>
    rw[if_neg c3]at H;exact absurd H (by simp)
   rw[if_pos c3]at H;have c3b0:=decide_eq_true c3;clear c3
   by_cases c4:x8_1<(l0.length:Int)
   case neg=>
    rw[if_neg c4]at H;exact absurd H (by simp)
   rw[if_pos c4]at H;have c4b0:=decide_eq_true c4;clear c4
   by_cases c5:(rd l0 x8_1)=0
   case neg=>
    rw[if_neg c5]at H;have c5b0:=beq_eq_false_iff_ne.mpr c5;have c5b1:=bne_iff_ne.mpr c5;obtain rfl:=Option.some.inj H;have g0:=t0_ (x8_1);have g1:=tl_ (x8_1) (l0.length);obtain⟨g4,g2,g3⟩:=Kd.at_int HR0.out x8_1 (of_eq_true g0) (of_eq_true g1);cases g2;go_wp2;go_ret;exact⟨rs_,dr_⟩
   rw[if_pos c5]at H;have c5b0:=beq_iff_eq.mpr c5;have c5b1:=bne_eq_false_iff_eq.mpr c5;clear c5;have H':=a0_ H;clear H;have g0:=t0_ (x8_1);have g1:=tl_ (x8_1) (l0.length);obtain⟨g4,g2,g3⟩:=Kd.at_int HR0.out x8_1 (of_eq_true g0) (of_eq_true g1);cases g2;go_wp2;go_roundg k1
   case measure=>have:=HK1.out;omega
   case rel=>exact⟨(wrap64 (x8_1+1)),rs_,H',jl_ HK1,dr_⟩
def al.l0: Nat→List ByteArray→Int→Int→Option (List ByteArray)
 | 0,_,_,_=>none
 | k+1,x0,x2,x3=>if x2<x3 then(if 0≤x3 then(if x3<(x0.length:Int)then(if 0≤x2 then(if x2<(x0.length:Int)then(al.l0 k ((x0.set (x2:Int).toNat (bn ByteArray.empty x0 x3)).set (x3:Int).toNat (bn ByteArray.empty x0 x2)) (wrap64 (x2+1)) (wrap64 (x3-1)))else(none))else(none))else(none))else(none))else(some x0)
def al.f(k:Nat)(l0:List ByteArray): Option (List ByteArray):=al.l0 k l0 0 (wrap64 ((l0.length:Int)-1))
def al.T3: Bool×List (List Nat×List Nat):=(true,[([],[]),([],[]),([],[]),([],[]),([],[]),([],[]),([4,5],[4,5]),([6],[6]),([],[]),([],[]),([8,9],[8,9]),([10],[10]),([0,1,0,1,4,5,6,7,11],[0,1]),([12,7,0,1,4,5,6,7,11],[7,12]),([2,3,0,1,2,3,4,5,6,7,8,9,10,11,12,13],[2,3]),([14,11,13,0,1,2,3,4,5,6,7,8,9,10,11,12,13],[11,14])])
def al.B3: List Nat:=[0,0,0,0,0,0,48,112,0,0,768,1792,4083,8179,16383,32767]
theorem al.tab3: eA .any (fc Tryz.f177 3)=al.T3:=by kernel_rfl
theorem al.bits3: du al.T3.2 al.B3=true:=by kernel_rfl
theorem al.c(k:Nat)(P0_:Nat→Prop)(u9000_:Value)(l0:List ByteArray)(r:List ByteArray)(w0 w:World)(hB:Below w0.heap.size w0 w)(ho0:Kd.R Kd.string 9 w w0.heap.size P0_ u9000_ l0)(h:al.f k l0=some r):
 Calls Tryz.prog 177 #[u9000_] w fun e w'=>e = .returned (.tuple #[])∧Kd.R Kd.string 9 w' w0.heap.size (fun k_=>(P0_ k_∨w.heap.size≤k_)) u9000_ r∧Below w0.heap.size w0 w'∧cW w w' (fun k_=>P0_ k_):=by
 have HO0:=a0_ (show Kd.R Kd.string 9 w w0.heap.size (fun k_=>(P0_ k_∨w.heap.size≤k_)) u9000_ l0 from Kd.R_mono ho0 (fun k_ hk=>(.inl hk)));have HK:=a0_ (cW.refl w (fun k_=>P0_ k_));have HW0:=a0_ hB.size;have HB:=a0_ hB;clear hB;have H:=h;clear h;unfold al.f at H;have H':=a0_ H;clear H;obtain⟨Ao2,co2,eo2⟩:=Kd.R_slice HO0.out;subst eo2;go_enter Tryz.func177,Tryz.ntmps177;go_wp2;go_loopg [2,3] k (fun kq v2 v3 w'=> ∃ (x0_1:List ByteArray) (x2_1:Int) (x3_1:Int),v2 = .int .i64 x2_1∧v3 = .int .i64 x3_1∧ab (al.l0 kq x0_1 x2_1 x3_1=some r)∧ab (kq≤k)∧ab (Kd.R Kd.string 9 w' w0.heap.size (fun k_=>(P0_ k_∨w.heap.size≤k_)) (.slice Ao2 l0.length co2) x0_1)∧ab (cW w w' (fun k_=>P0_ k_))∧ab (Below w0.heap.size w0 w'))
 case atStart=>exact⟨(l0),(0),(wrap64 ((l0.length:Int)-1)),rs_,rs_,H',⟨Nat.le_refl _⟩,⟨kR_ HO0.out⟩,⟨kp_⟩,⟨ay⟩⟩
 case round=>
  clear H';obtain⟨x0_1,x2_1,x3_1,rfl,rfl,HA,HK1,HO_0,HK,HB⟩:=hrel;have hl0_1:=(Kd.R_reads' HO_0.out).1;rw[hl0_1]at HO_0
  (try simp only[hl0_1])
  cases gk with
  | zero=>exact absurd HA.out (by simp[al.l0])
  | succ k1=>
   have H:=HA.out;clear HA;simp only[al.l0]at H
   by_cases c3:x2_1<x3_1
   case neg=>
    rw[if_neg c3]at H;have c3b0:=decide_eq_false c3;clear c3;obtain rfl:=Option.some.inj H;go_wp2
    first|go_end0|((try simp only[Exit.inBlock,Exit.then]);refine bodyPost_ret (results_none rfl _ _ _) rfl ?_)
    exact⟨rr_,(by first|exact(kR_ HO_0.out)|(simp only[hl0_1];exact(kR_ HO_0.out))),ay,by repeat(first|(with_reducible first|exact HK.out|apply cW.alloc|apply cW.drewN|apply cW.drew)|exact HK.out)⟩
   rw[if_pos c3]at H;have c3b0:=decide_eq_true c3;clear c3
   by_cases c4:0≤x3_1
   case neg=>
    rw[if_neg c4]at H;exact absurd H (by simp)
   rw[if_pos c4]at H;have c4b0:=decide_eq_true c4;clear c4
   by_cases c5:x3_1<(x0_1.length:Int)
   case neg=>
    rw[if_neg c5]at H;exact absurd H (by simp)
   rw[if_pos c5]at H;have c5b0:=decide_eq_true c5;clear c5
   by_cases c6:0≤x2_1
   case neg=>
    rw[if_neg c6]at H;exact absurd H (by simp)
   rw[if_pos c6]at H;have c6b0:=decide_eq_true c6;clear c6
   by_cases c7:x2_1<(x0_1.length:Int)
   case neg=>
    rw[if_neg c7]at H;exact absurd H (by simp)
   rw[if_pos c7]at H;have c7b0:=decide_eq_true c7;clear c7;obtain⟨g8,g2⟩:∃ y_:List ByteArray,y_=(x0_1.set (x2_1:Int).toNat (bn ByteArray.empty x0_1 x3_1)):=⟨_,rfl⟩;rw[← g2]at H;have g4:=a0_ g2;clear g2;obtain⟨g9,g3⟩:∃ y_:List ByteArray,y_=(g8.set (x3_1:Int).toNat (bn ByteArray.empty x0_1 x2_1)):=⟨_,rfl⟩;rw[← g3]at H;have g5:=a0_ g3;clear g3;have H':=a0_ H;clear H
   try go_wp2
   replace HO_0:=a0_ (Kd.R_drew HO_0.out);replace HK:=a0_ (cW.drew HK.out);replace HB:=a0_ (bp HB.out);have j0:=t0_ (x3_1);have j1:=tl_ (x3_1) (x0_1.length);obtain⟨g6,j2,g0⟩:=Kd.at_string (Kd.R_reads' HO_0.out).2.2 x3_1 (of_eq_true j0) (of_eq_true j1);cases j2;have j3:=t0_ (x2_1);have j4:=tl_ (x2_1) (x0_1.length);obtain⟨g7,j5,g1⟩:=Kd.at_string (Kd.R_reads' HO_0.out).2.2 x2_1 (of_eq_true j3) (of_eq_true j4);obtain rfl:g6=g7:=(by injection j5);have p8:0≤(x2_1:Int):=dr;have q8:(x2_1:Int)<((x0_1.length:Int):Int):=dr;obtain⟨go8,co8,eo8,gb8,gl8,cl8,HG8⟩:=Kd.R_form HO_0.out (by omega)
   (first|cases eo8|(injection eo8 with ea_ en_ ec_;(first|subst ea_|(injection ea_ with ea_;subst ea_));subst ec_;clear en_))
   have GB8:=a0_ gb8;have GG8:=a0_ HG8;clear gb8 gl8 HG8;have HMgo8:=a0_ (show(P0_ go8∨w.heap.size≤go8)from(HO_0.out.1 _ rfl))
   (first|simp only[dj]at g0|skip)
   (first|simp only[dj]at g1|skip)
   obtain⟨hx8_0,hf8_0⟩:=Kd.R_celln (⟨#[]⟩:ByteArray) HO_0.out (x2_1:Int) p8 q8;replace p8:=eq_true p8;replace q8:=eq_true q8;have HP11:=Kd.R_putn HO_0.out (x2_1:Int) (bn ByteArray.empty x0_1 x3_1);rw[← g4.out]at HP11;have HQ11:=a0_ HP11;clear HP11;have p9:=t0_ (x3_1);have q9:=tl_ ((x3_1:Int)) ((x0_1.length:Int));obtain⟨hx9_0,hf9_0⟩:=Kd.R_celln (⟨#[]⟩:ByteArray) HQ11.out (x3_1:Int) (of_eq_true p9) (of_eq_true q9);have HP12:=Kd.R_putn HQ11.out (x3_1:Int) (bn ByteArray.empty x0_1 x2_1);rw[← g5.out]at HP12;have HQ12:=a0_ HP12;clear HP12
   refine fN 16 [13,15] (c1_ g0 (e1_ g1)) (fun hHeld=>?_);refine ck al.tab3 al.bits3 (fun HT_ HW_=>?_)
   generalize wr.drew=j6 at HO_0 HK HB GG8 HQ11 HQ12 hf8_0 hf9_0 g0 g1 hx8_0 hx9_0 hHeld ⊢
   refine p_ 0 14 ?_
   refine p_ 1 15 ?_
   refine p_ 2 16 ?_
   refine p_ 3 17 ?_
   refine p_ 4 18 ?_
   refine p_ 5 19 ?_
   refine p_ 6 20 ?_
   refine p_ 8 22 ?_
   refine p_ 9 23 ?_
   refine p_ 10 24 ?_
   refine t_ 7 21 ?_
   refine t_ 11 25 ?_
   refine p_ 12 26 ?_
   refine mF (i:=13) (N:=none) #[true,true,true,true,true,true,true,true,true,true,true,true,true,true,false,false] rfl rfl (fY HT_.out (by kernel_rfl)) (by decide) (fun K hK=>?_)
   refine lf (w1:=?_) (by rfl) rfl ?_ ?_
   rotate_left
   · go_simp
     rfl
   refine hK.out _ _ ?_
   clear hK K
   refine p_ 14 27 ?_
   refine mF (i:=15) (N:=none) #[true,true,true,true,true,true,true,true,true,true,true,true,true,true,true,true] rfl rfl (fY HT_.out (by kernel_rfl)) (by decide) (fun K hK=>?_)
   refine lf (w1:=?_) (by rfl) rfl ?_ ?_
   rotate_left
   · go_simp
     rfl
   refine hK.out _ _ ?_
   clear hK K
   refine dZ (db HT_.out (by kernel_rfl)) ?_
   try go_wp2
   (try simp only[← hl0_1])
   go_roundg k1
   case measure=>have:=HK1.out;omega
   case rel=>exact⟨(g9),(wrap64 (x2_1+1)),(wrap64 (x3_1-1)),rs_,rs_,H',jl_ HK1,⟨by(try simp only[hl0_1]);(with_reducible repeat(first|apply Kd.R_alloc|apply Kd.R_drewN|apply Kd.R_drew));exact HQ12.out⟩,⟨by repeat(first|(with_reducible first|exact HK.out|apply cW.alloc|apply cW.drewN|apply cW.drew|refine cW.setCell ?_ HMgo8.out _|refine cW.setCell ?_ HMgo8.out _)|exact HK.out)⟩,⟨ca⟩⟩
end Go.Proofs.YtiegkjimpclmaaaGreatDoor.P
namespace Go.Proofs.YtiegkjimpclmaaaGreatDoor.P
attribute [local go_sem] cG cD c_ cZ ci ch cE cH
attribute [local go_sem] kf
def de.f(a0:ByteArray)(a1:ByteArray): Option (Int):=(bO.f a0).bind fun g1=>((bO.f a1).bind fun g0=>(if g1=true then(if g0=true then(some 0)else(some (-1)))else(if g0=true then(some 1)else(if(Op.bytesLess a0.toList a1.toList)=true then(some (-1))else(if(Op.bytesLess a1.toList a0.toList)=true then(some 1)else(some 0))))))
theorem de.c(a0:ByteArray)(a1:ByteArray)(r:Int)(w:World)(h:de.f a0 a1=some r):
 Calls Tryz.prog 208 #[.string a0,.string a1] w fun e w'=>e = .returned (.int .i64 r)∧cC w w':=by
 have H:=h;clear h;unfold de.f at H;obtain⟨g1,A3,H⟩:=ob_ H;obtain⟨g0,A4,H⟩:=ob_ H
 by_cases c5:g1=true
 case pos=>
  subst c5;rw[if_pos rfl]at H
  by_cases c6:g0=true
  case pos=>
   subst c6;rw[if_pos rfl]at H;obtain rfl:=Option.some.inj H;go_enter Tryz.func208,Tryz.ntmps208;go_wp2_with (first|((with_reducible refine gt_ 248 rfl ?_);refine gs_ 8 Tryz.func248 #[.string a0] ?_;(with_reducible refine(bO.c a0 true _ A3.out).mono ?_);rintro e w' ⟨rfl,⟨nd,rfl⟩⟩;refine⟨_,rfl,?_⟩)|((with_reducible refine gt_ 248 rfl ?_);refine gs_ 10 Tryz.func248 #[.string a1] ?_;(with_reducible refine(bO.c a1 true _ A4.out).mono ?_);rintro e w' ⟨rfl,⟨nd,rfl⟩⟩;refine⟨_,rfl,?_⟩));go_ret;exact⟨rs_,dr_⟩
  replace c6:=Bool.eq_false_iff.mpr c6;subst c6;rw[if_neg ff_]at H;obtain rfl:=Option.some.inj H;go_enter Tryz.func208,Tryz.ntmps208;go_wp2_with (first|((with_reducible refine gt_ 248 rfl ?_);refine gs_ 8 Tryz.func248 #[.string a0] ?_;(with_reducible refine(bO.c a0 true _ A3.out).mono ?_);rintro e w' ⟨rfl,⟨nd,rfl⟩⟩;refine⟨_,rfl,?_⟩)|((with_reducible refine gt_ 248 rfl ?_);refine gs_ 10 Tryz.func248 #[.string a1] ?_;(with_reducible refine(bO.c a1 false _ A4.out).mono ?_);rintro e w' ⟨rfl,⟨nd,rfl⟩⟩;refine⟨_,rfl,?_⟩));go_ret;exact⟨rs_,dr_⟩
 replace c5:=Bool.eq_false_iff.mpr c5;subst c5;rw[if_neg ff_]at H
 by_cases c7:g0=true
 case pos=>
  subst c7;rw[if_pos rfl]at H;obtain rfl:=Option.some.inj H;go_enter Tryz.func208,Tryz.ntmps208;go_wp2_with (first|((with_reducible refine gt_ 248 rfl ?_);refine gs_ 8 Tryz.func248 #[.string a0] ?_;(with_reducible refine(bO.c a0 false _ A3.out).mono ?_);rintro e w' ⟨rfl,⟨nd,rfl⟩⟩;refine⟨_,rfl,?_⟩)|((with_reducible refine gt_ 248 rfl ?_);refine gs_ 10 Tryz.func248 #[.string a1] ?_;(with_reducible refine(bO.c a1 true _ A4.out).mono ?_);rintro e w' ⟨rfl,⟨nd,rfl⟩⟩;refine⟨_,rfl,?_⟩));go_ret;exact⟨rs_,dr_⟩
 replace c7:=Bool.eq_false_iff.mpr c7;subst c7;rw[if_neg ff_]at H
 by_cases c8:(Op.bytesLess a0.toList a1.toList)=true
 case pos=>
  rw[if_pos c8]at H;have c8b0:(Op.bytesLess a0.toList a1.toList)=true:=c8;clear c8;obtain rfl:=Option.some.inj H;go_enter Tryz.func208,Tryz.ntmps208;go_wp2_with (first|((with_reducible refine gt_ 248 rfl ?_);refine gs_ 8 Tryz.func248 #[.string a0] ?_;(with_reducible refine(bO.c a0 false _ A3.out).mono ?_);rintro e w' ⟨rfl,⟨nd,rfl⟩⟩;refine⟨_,rfl,?_⟩)|((with_reducible refine gt_ 248 rfl ?_);refine gs_ 10 Tryz.func248 #[.string a1] ?_;(with_reducible refine(bO.c a1 false _ A4.out).mono ?_);rintro e w' ⟨rfl,⟨nd,rfl⟩⟩;refine⟨_,rfl,?_⟩));go_ret;exact⟨rs_,dr_⟩
 rw[if_neg c8]at H
 have c8b0:(Op.bytesLess a0.toList a1.toList)=false:=by simpa using c8
 clear c8
 by_cases c9:(Op.bytesLess a1.toList a0.toList)=true
 case neg=>
  rw[if_neg c9]at H
  have c9b0:(Op.bytesLess a1.toList a0.toList)=false:=by simpa using c9
  clear c9;obtain rfl:=Option.some.inj H;go_enter Tryz.func208,Tryz.ntmps208;go_wp2_with (first|((with_reducible refine gt_ 248 rfl ?_);refine gs_ 8 Tryz.func248 #[.string a0] ?_;(with_reducible refine(bO.c a0 false _ A3.out).mono ?_);rintro e w' ⟨rfl,⟨nd,rfl⟩⟩;refine⟨_,rfl,?_⟩)|((with_reducible refine gt_ 248 rfl ?_);refine gs_ 10 Tryz.func248 #[.string a1] ?_;(with_reducible refine(bO.c a1 false _ A4.out).mono ?_);rintro e w' ⟨rfl,⟨nd,rfl⟩⟩;refine⟨_,rfl,?_⟩));go_ret;exact⟨rs_,dr_⟩
 rw[if_pos c9]at H;have c9b0:(Op.bytesLess a1.toList a0.toList)=true:=c9;clear c9;obtain rfl:=Option.some.inj H;go_enter Tryz.func208,Tryz.ntmps208;go_wp2_with (first|((with_reducible refine gt_ 248 rfl ?_);refine gs_ 8 Tryz.func248 #[.string a0] ?_;(with_reducible refine(bO.c a0 false _ A3.out).mono ?_);rintro e w' ⟨rfl,⟨nd,rfl⟩⟩;refine⟨_,rfl,?_⟩)|((with_reducible refine gt_ 248 rfl ?_);refine gs_ 10 Tryz.func248 #[.string a1] ?_;(with_reducible refine(bO.c a1 false _ A4.out).mono ?_);rintro e w' ⟨rfl,⟨nd,rfl⟩⟩;refine⟨_,rfl,?_⟩));go_ret;exact⟨rs_,dr_⟩
end Go.Proofs.YtiegkjimpclmaaaGreatDoor.P
namespace Go.Proofs.YtiegkjimpclmaaaGreatDoor.P
attribute [local go_sem] cG cD c_ cZ ci ch cE cH
def dO.f(a0:Int)(a1:Int): Option (Int):=(ct.f a0).bind fun g1=>((ct.f a1).bind fun g0=>(if g1=true then(if g0=true then(some 0)else(some (-1)))else(if g0=true then(some 1)else(if a0<a1 then(some (-1))else(if a0>a1 then(some 1)else(some 0))))))
theorem dO.c(a0:Int)(a1:Int)(r:Int)(w:World)(h:dO.f a0 a1=some r):
 Calls Tryz.prog 133 #[.int .i64 a0,.int .i64 a1] w fun e w'=>e = .returned (.int .i64 r)∧cC w w':=by
 have H:=h;clear h;unfold dO.f at H;obtain⟨g1,A3,H⟩:=ob_ H;obtain⟨g0,A4,H⟩:=ob_ H
 by_cases c5:g1=true
 case pos=>
  subst c5;rw[if_pos rfl]at H
  by_cases c6:g0=true
  case pos=>
   subst c6;rw[if_pos rfl]at H;obtain rfl:=Option.some.inj H;go_enter Tryz.func133,Tryz.ntmps133;go_wp2_with (first|((with_reducible refine gt_ 179 rfl ?_);refine gs_ 8 Tryz.func179 #[.int .i64 a0] ?_;(with_reducible refine(ct.c a0 true _ A3.out).mono ?_);rintro e w' ⟨rfl,⟨nd,rfl⟩⟩;refine⟨_,rfl,?_⟩)|((with_reducible refine gt_ 179 rfl ?_);refine gs_ 10 Tryz.func179 #[.int .i64 a1] ?_;(with_reducible refine(ct.c a1 true _ A4.out).mono ?_);rintro e w' ⟨rfl,⟨nd,rfl⟩⟩;refine⟨_,rfl,?_⟩));go_ret;exact⟨rs_,dr_⟩
  replace c6:=Bool.eq_false_iff.mpr c6;subst c6;rw[if_neg ff_]at H;obtain rfl:=Option.some.inj H;go_enter Tryz.func133,Tryz.ntmps133;go_wp2_with (first|((with_reducible refine gt_ 179 rfl ?_);refine gs_ 8 Tryz.func179 #[.int .i64 a0] ?_;(with_reducible refine(ct.c a0 true _ A3.out).mono ?_);rintro e w' ⟨rfl,⟨nd,rfl⟩⟩;refine⟨_,rfl,?_⟩)|((with_reducible refine gt_ 179 rfl ?_);refine gs_ 10 Tryz.func179 #[.int .i64 a1] ?_;(with_reducible refine(ct.c a1 false _ A4.out).mono ?_);rintro e w' ⟨rfl,⟨nd,rfl⟩⟩;refine⟨_,rfl,?_⟩));go_ret;exact⟨rs_,dr_⟩
 replace c5:=Bool.eq_false_iff.mpr c5;subst c5;rw[if_neg ff_]at H
 by_cases c7:g0=true
 case pos=>
  subst c7;rw[if_pos rfl]at H;obtain rfl:=Option.some.inj H;go_enter Tryz.func133,Tryz.ntmps133;go_wp2_with (first|((with_reducible refine gt_ 179 rfl ?_);refine gs_ 8 Tryz.func179 #[.int .i64 a0] ?_;(with_reducible refine(ct.c a0 false _ A3.out).mono ?_);rintro e w' ⟨rfl,⟨nd,rfl⟩⟩;refine⟨_,rfl,?_⟩)|((with_reducible refine gt_ 179 rfl ?_);refine gs_ 10 Tryz.func179 #[.int .i64 a1] ?_;(with_reducible refine(ct.c a1 true _ A4.out).mono ?_);rintro e w' ⟨rfl,⟨nd,rfl⟩⟩;refine⟨_,rfl,?_⟩));go_ret;exact⟨rs_,dr_⟩
 replace c7:=Bool.eq_false_iff.mpr c7;subst c7;rw[if_neg ff_]at H
 by_cases c8:a0<a1
 case pos=>
  rw[if_pos c8]at H;have c8b0:=decide_eq_true c8;clear c8;obtain rfl:=Option.some.inj H;go_enter Tryz.func133,Tryz.ntmps133;go_wp2_with (first|((with_reducible refine gt_ 179 rfl ?_);refine gs_ 8 Tryz.func179 #[.int .i64 a0] ?_;(with_reducible refine(ct.c a0 false _ A3.out).mono ?_);rintro e w' ⟨rfl,⟨nd,rfl⟩⟩;refine⟨_,rfl,?_⟩)|((with_reducible refine gt_ 179 rfl ?_);refine gs_ 10 Tryz.func179 #[.int .i64 a1] ?_;(with_reducible refine(ct.c a1 false _ A4.out).mono ?_);rintro e w' ⟨rfl,⟨nd,rfl⟩⟩;refine⟨_,rfl,?_⟩));go_ret;exact⟨rs_,dr_⟩
 rw[if_neg c8]at H;have c8b0:=decide_eq_false c8;clear c8
 by_cases c9:a0>a1
 case neg=>
  rw[if_neg c9]at H;have c9b0:=decide_eq_false c9;clear c9;obtain rfl:=Option.some.inj H;go_enter Tryz.func133,Tryz.ntmps133;go_wp2_with (first|((with_reducible refine gt_ 179 rfl ?_);refine gs_ 8 Tryz.func179 #[.int .i64 a0] ?_;(with_reducible refine(ct.c a0 false _ A3.out).mono ?_);rintro e w' ⟨rfl,⟨nd,rfl⟩⟩;refine⟨_,rfl,?_⟩)|((with_reducible refine gt_ 179 rfl ?_);refine gs_ 10 Tryz.func179 #[.int .i64 a1] ?_;(with_reducible refine(ct.c a1 false _ A4.out).mono ?_);rintro e w' ⟨rfl,⟨nd,rfl⟩⟩;refine⟨_,rfl,?_⟩));go_ret;exact⟨rs_,dr_⟩
 rw[if_pos c9]at H;have c9b0:=decide_eq_true c9;clear c9;obtain rfl:=Option.some.inj H;go_enter Tryz.func133,Tryz.ntmps133;go_wp2_with (first|((with_reducible refine gt_ 179 rfl ?_);refine gs_ 8 Tryz.func179 #[.int .i64 a0] ?_;(with_reducible refine(ct.c a0 false _ A3.out).mono ?_);rintro e w' ⟨rfl,⟨nd,rfl⟩⟩;refine⟨_,rfl,?_⟩)|((with_reducible refine gt_ 179 rfl ?_);refine gs_ 10 Tryz.func179 #[.int .i64 a1] ?_;(with_reducible refine(ct.c a1 false _ A4.out).mono ?_);rintro e w' ⟨rfl,⟨nd,rfl⟩⟩;refine⟨_,rfl,?_⟩));go_ret;exact⟨rs_,dr_⟩
def cI.l0: Nat→Int→List Int→Int→Int→Option (Bool)
 | 0,_,_,_,_=>none
 | k+1,x1,x7,x8,x9=>if x9<x8 then(if 0≤x9 then(if x9<(x7.length:Int)then(if(rd x7 x9)=x1 then(some true)else(cI.l0 k x1 x7 x8 (wrap64 (x9+1))))else(none))else(none))else(some false)
def cI.f(k:Nat)(l0:List Int)(a1:Int): Option (Bool):=cI.l0 k a1 l0 (l0.length:Int) 0
theorem cI.c(k:Nat)(A0:Option Addr)(c0:Nat)(l0:List Int)(a1:Int)(r:Bool)(w:World)(hr0:Kd.C (Kd.int .i64) w A0 l0.length l0)(hc0:l0.length≤c0)(h:cI.f k l0 a1=some r):
 Calls Tryz.prog 156 #[.slice A0 l0.length c0,.int .i64 a1] w fun e w'=>e = .returned (.bool r)∧cC w w':=by
 have HR0:=a0_ hr0;have HC0:=a0_ hc0;clear hr0 hc0;have H:=h;clear h;unfold cI.f at H;have H':=a0_ H;clear H;go_enter Tryz.func156,Tryz.ntmps156;go_wp2;go_loopg [9] k (fun kq v9 w'=> ∃ (x9_1:Int),v9 = .int .i64 x9_1∧ab (cI.l0 kq a1 l0 (l0.length:Int) x9_1=some r)∧ab (kq≤k)∧cC w w')
 case atStart=>exact⟨(0),rs_,H',⟨Nat.le_refl _⟩,dr_⟩
 case round=>
  clear H';obtain⟨x9_1,rfl,HA,HK1,⟨m1,rfl⟩⟩:=hrel
  cases gk with
  | zero=>exact absurd HA.out (by simp[cI.l0])
  | succ k1=>
   have H:=HA.out;clear HA;simp only[cI.l0]at H
   by_cases c3:x9_1<(l0.length:Int)
   case neg=>
    rw[if_neg c3]at H;have c3b0:=decide_eq_false c3;clear c3;obtain rfl:=Option.some.inj H;go_wp2;go_ret;exact⟨rs_,dr_⟩
   rw[if_pos c3]at H;have c3b0:=decide_eq_true c3;clear c3
   by_cases c4:0≤x9_1
   case neg=>
    rw[if_neg c4]at H;exact absurd H (by simp)
   rw[if_pos c4]at H;have c4b0:=decide_eq_true c4;clear c4
   by_cases c5:x9_1<(l0.length:Int)
   case neg=>
    rw[if_neg c5]at H;exact absurd H (by simp)
   rw[if_pos c5]at H;have c5b0:=decide_eq_true c5;clear c5
   by_cases c6:(rd l0 x9_1)=a1
   case pos=>
    rw[if_pos c6]at H;have c6b0:=beq_iff_eq.mpr c6;have c6b1:=bne_eq_false_iff_eq.mpr c6;clear c6;obtain rfl:=Option.some.inj H;have g0:=t0_ (x9_1);have g1:=tl_ (x9_1) (l0.length);obtain⟨g4,g2,g3⟩:=Kd.at_int HR0.out x9_1 (of_eq_true g0) (of_eq_true g1);cases g2;go_wp2;go_ret;exact⟨rs_,dr_⟩
   rw[if_neg c6]at H;have c6b0:=beq_eq_false_iff_ne.mpr c6;have c6b1:=bne_iff_ne.mpr c6;have H':=a0_ H;clear H;have g0:=t0_ (x9_1);have g1:=tl_ (x9_1) (l0.length);obtain⟨g4,g2,g3⟩:=Kd.at_int HR0.out x9_1 (of_eq_true g0) (of_eq_true g1);cases g2;go_wp2;go_roundg k1
   case measure=>have:=HK1.out;omega
   case rel=>exact⟨(wrap64 (x9_1+1)),rs_,H',jl_ HK1,dr_⟩
def am.l0: Nat→Int→List Int→Int→Option (ByteArray)
 | 0,_,_,_=>none
 | k+1,x0,x5,x6=>if x6≥0 then(if 0≤x6 then(if x6<(x5.length:Int)then(am.l0 k (x0 / 256) (x5.set (x6:Int).toNat ((x0)%256)) (wrap64 (x6-1)))else(none))else(none))else(some (strOfNums x5))
def am.f(k:Nat)(a0:Int)(a1:Int): Option (ByteArray):=if 0≤a1 then(if(a1:Int).toNat≤281474976710656 then(am.l0 k a0 (List.replicate (a1:Int).toNat 0) (wrap64 (a1-1)))else(none))else(none)
theorem am.mono_l: ∀ k,(∀ y0 y1 y2,LeO (am.l0 k y0 y1 y2) (am.l0 (k+1) y0 y1 y2))
 | 0=>fun _ _ _ r h=>by simp[am.l0]at h
 | k+1=>by
  have ih0:=am.mono_l k
  · intro y0 y1 y2
    unfold am.l0
    repeat' first|(with_reducible first|exact ih0 _ _ _|exact LeO.refl _|exact LeO.none _|refine LeO.ite ?_ ?_|refine LeO.bind ?_ (fun _=>?_))|exact LeO.none _|refine LeO.ite ?_ ?_|refine LeO.bind ?_ (fun _=>?_)
theorem am.m: ∀ a0 a1 k,LeO (am.f k a0 a1) (am.f (k+1) a0 a1):=by
 intro a0 a1 k;have ih0:=am.mono_l k;unfold am.f
 repeat' first|(with_reducible first|exact ih0 _ _ _|exact LeO.refl _|exact LeO.none _|refine LeO.ite ?_ ?_|refine LeO.bind ?_ (fun _=>?_))|exact LeO.none _|refine LeO.ite ?_ ?_|refine LeO.bind ?_ (fun _=>?_)
theorem am.c(k:Nat)(a0:Int)(a1:Int)(r:ByteArray)(w:World)(h:am.f k a0 a1=some r):
 Calls Tryz.prog 118 #[.int .i64 a0,.int .i64 a1] w fun e w'=>e = .returned (.string r)∧Below w.heap.size w w':=by
 have HB:=a0_ (Below.refl w.heap.size w);have H:=h;clear h;unfold am.f at H
 by_cases c3:0≤a1
 case neg=>
  rw[if_neg c3]at H;exact absurd H (by simp)
 rw[if_pos c3]at H;have c3b0:=eq_true c3;have c3b1:=decide_eq_true c3;clear c3
 by_cases c4:(a1:Int).toNat≤281474976710656
 case neg=>
  rw[if_neg c4]at H;exact absurd H (by simp)
 rw[if_pos c4]at H;have c4b0:=eq_true c4;have c4b1:=decide_eq_true c4;clear c4;obtain⟨j2,g0⟩:∃ y_:List Int,y_=(List.replicate (a1:Int).toNat 0):=⟨_,rfl⟩;rw[← g0]at H;have g2:=a0_ g0;clear g0;have H':=a0_ H;clear H;go_enter Tryz.func118,Tryz.ntmps118;go_wp2_with (first|((with_reducible refine ax (N:=8) rfl ?_);refine Kd.R_make (Kd.int .u8) _ 5 rfl (N:=8) rfl 43 _ _ rfl a1 rfl rfl Tryz.underlying43 (.int .u8 0) 1 rf rfl (by decide) (by omega) 0 (ok:=fun _=>True) (okp:=fun _=>True) rfl (fun _ hk=>hk) trivial (dr) (Nat.le_trans (Nat.mul_le_mul_right _ (dr:a1.toNat≤281474976710656)) (by omega)) (Below.refl _ _) (Nat.le_refl _) ?_;intro j3 w5 ho6 hb hg_ hnew_;clear hg_ hnew_;(first|rw[← g2.out]at ho6|(simp only[Int.reduceToNat]at ho6;rw[← g2.out]at ho6));have j0:=a0_ (Kd.R_lower ho6 (aj ay));replace HB:=a0_ (aa ay hb);clear hb ho6));go_loopg [0,6] k (fun kq v0 v6 w'=> ∃ (x0_1:Int) (x5_1:List Int) (x6_1:Int),v0 = .int .i64 x0_1∧v6 = .int .i64 x6_1∧ab (am.l0 kq x0_1 x5_1 x6_1=some r)∧ab (kq≤k)∧ab (Kd.R (Kd.int .u8) 5 w' w.heap.size (fun _=>True) j3 x5_1)∧ab (Below w.heap.size w w'))
 case atStart=>exact⟨(a0),(j2),(wrap64 (a1-1)),rs_,rs_,H',⟨Nat.le_refl _⟩,⟨kR_ j0.out⟩,⟨ay⟩⟩
 case round=>
  clear H'
  try clear c3
  try clear c3b0
  try clear c3b1
  try clear c4
  try clear c4b0
  try clear c4b1
  obtain⟨x0_1,x5_1,x6_1,rfl,rfl,HA,HK1,HO_5,HB⟩:=hrel
  cases gk with
  | zero=>exact absurd HA.out (by simp[am.l0])
  | succ k1=>
   have H:=HA.out;clear HA;simp only[am.l0]at H
   by_cases c7:x6_1≥0
   case neg=>
    rw[if_neg c7]at H;have c7b0:=decide_eq_false c7;clear c7;obtain rfl:=Option.some.inj H;have hcv13:=ea (P:=Tryz.prog) Tryz.underlying43 Tryz.underlying5 Tryz.underlying9 (Kd.own_of_R HO_5.out);go_wp2;go_ret;exact⟨rr_,ay⟩
   rw[if_pos c7]at H;have c7b0:=decide_eq_true c7;clear c7
   by_cases c8:0≤x6_1
   case neg=>
    rw[if_neg c8]at H;exact absurd H (by simp)
   rw[if_pos c8]at H;have c8b0:=decide_eq_true c8;clear c8
   by_cases c9:x6_1<(x5_1.length:Int)
   case neg=>
    rw[if_neg c9]at H;exact absurd H (by simp)
   rw[if_pos c9]at H;have c9b0:=decide_eq_true c9;clear c9;obtain⟨g3,g1⟩:∃ y_:List Int,y_=(x5_1.set (x6_1:Int).toNat ((x0_1)%256)):=⟨_,rfl⟩;rw[← g1]at H;have j1:=a0_ g1;clear g1;have H':=a0_ H;clear H;have g4:0≤(x6_1:Int):=dr;have g5:(x6_1:Int)<((x5_1.length:Int):Int):=dr;obtain⟨go10,j4,g6,g7,gl10,cl10,g8⟩:=Kd.R_form HO_5.out (by omega)
   (first|cases g6|(injection g6 with ea_ en_ ec_;(first|subst ea_|(injection ea_ with ea_;subst ea_));subst ec_;clear en_))
   have GB10:=a0_ g7;have GG10:=a0_ g8;clear g7 gl10 g8;obtain⟨j5,hf10_0⟩:=Kd.R_celln 0 HO_5.out (x6_1:Int) g4 g5;replace g4:=eq_true g4;replace g5:=eq_true g5;have HP11:=Kd.R_putg HO_5.out (x6_1:Int) ((x0_1)%256);go_wp2_with (first|((with_reducible refine nr (t:=5) (p:=19) rfl ?_);refine mj (t:=5) (p:=19) (v:=?vo_w12) (w1:=(wr.setCell ⟨go10,(x6_1:Int).toNat,none⟩ (.int .u8 ((x0_1)%256)))) ?hg ?ho ?hn ?hr ?_;(case ho=>rfl);(case hg=>rfl);(case hn=>rfl);(case hr=>first|(go_simp;done)|(go_simp;rfl));intro g9 hw;have hg:wr.grownBy g9 (some go10):=(by rw[hw];exact HP11.2);have hp_:Kd.R (Kd.int .u8) 5 g9 w.heap.size (fun _=>True) (.slice (some ⟨go10,0,none⟩) x5_1.length j4) g3:=(by rw[hw,j1.out];exact HP11.1);clear HP11;replace HO_5:=a0_ (hp_);replace HB:=a0_ ((by rw[hw];exact cz (HB.out) GB10.out:Below w.heap.size w g9));clear hg hw hp_));go_roundg k1
   case measure=>have:=HK1.out;omega
   case rel=>exact⟨(x0_1 / 256),(g3),(wrap64 (x6_1-1)),rs_,rs_,H',jl_ HK1,⟨kR_ HO_5.out⟩,⟨ay⟩⟩
def bi.l0: Nat→ByteArray→List ByteArray→Int→Int→Option (ByteArray)
 | 0,_,_,_,_=>none
 | k+1,x3,x6,x7,x8=>if x8<x7 then(if 0≤x8 then(if x8<(x6.length:Int)then(if x8>0 then(if x3.size+1≤9223372036854775807 then(if(x3++(⟨#[46]⟩:ByteArray)).size+(bn ByteArray.empty x6 x8).size≤9223372036854775807 then(bi.l0 k ((x3++(⟨#[46]⟩:ByteArray))++(bn ByteArray.empty x6 x8)) x6 x7 (wrap64 (x8+1)))else(none))else(none))else(if x3.size+(bn ByteArray.empty x6 x8).size≤9223372036854775807 then(bi.l0 k (x3++(bn ByteArray.empty x6 x8)) x6 x7 (wrap64 (x8+1)))else(none)))else(none))else(none))else(some x3)
def bi.f(k:Nat)(l0:List ByteArray): Option (ByteArray):=bi.l0 k (⟨#[]⟩:ByteArray) l0 (l0.length:Int) 0
theorem bi.mono_l: ∀ k,(∀ y0 y1 y2 y3,LeO (bi.l0 k y0 y1 y2 y3) (bi.l0 (k+1) y0 y1 y2 y3))
 | 0=>fun _ _ _ _ r h=>by simp[bi.l0]at h
 | k+1=>by
  have ih0:=bi.mono_l k
  · intro y0 y1 y2 y3
    unfold bi.l0
    repeat' first|(with_reducible first|exact ih0 _ _ _ _|exact LeO.refl _|exact LeO.none _|refine LeO.ite ?_ ?_|refine LeO.bind ?_ (fun _=>?_))|exact LeO.none _|refine LeO.ite ?_ ?_|refine LeO.bind ?_ (fun _=>?_)
theorem bi.m: ∀ a0 k,LeO (bi.f k a0) (bi.f (k+1) a0):=by
 intro a0 k;have ih0:=bi.mono_l k;unfold bi.f
 repeat' first|(with_reducible first|exact ih0 _ _ _ _|exact LeO.refl _|exact LeO.none _|refine LeO.ite ?_ ?_|refine LeO.bind ?_ (fun _=>?_))|exact LeO.none _|refine LeO.ite ?_ ?_|refine LeO.bind ?_ (fun _=>?_)
theorem bi.c(k:Nat)(A0:Option Addr)(c0:Nat)(l0:List ByteArray)(r:ByteArray)(w:World)(hr0:Kd.C Kd.string w A0 l0.length l0)(hc0:l0.length≤c0)(h:bi.f k l0=some r):
 Calls Tryz.prog 170 #[.slice A0 l0.length c0] w fun e w'=>e = .returned (.string r)∧cC w w':=by
 have HR0:=a0_ hr0;have HC0:=a0_ hc0;clear hr0 hc0;have H:=h;clear h;unfold bi.f at H;have H':=a0_ H;clear H;go_enter Tryz.func170,Tryz.ntmps170;go_wp2;go_loopg [3,8] k (fun kq v3 v8 w'=> ∃ (x3_1:ByteArray) (x8_1:Int),v3 = .string x3_1∧v8 = .int .i64 x8_1∧ab (bi.l0 kq x3_1 l0 (l0.length:Int) x8_1=some r)∧ab (kq≤k)∧cC w w')
 case atStart=>exact⟨((⟨#[]⟩:ByteArray)),(0),rs_,rs_,H',⟨Nat.le_refl _⟩,dr_⟩
 case round=>
  clear H';obtain⟨x3_1,x8_1,rfl,rfl,HA,HK1,⟨m1,rfl⟩⟩:=hrel
  cases gk with
  | zero=>exact absurd HA.out (by simp[bi.l0])
  | succ k1=>
   have H:=HA.out;clear HA;simp only[bi.l0]at H
   by_cases c2:x8_1<(l0.length:Int)
   case neg=>
    rw[if_neg c2]at H;have c2b0:=decide_eq_false c2;clear c2;obtain rfl:=Option.some.inj H;go_wp2;go_ret;exact⟨rs_,dr_⟩
   rw[if_pos c2]at H;have c2b0:=decide_eq_true c2;clear c2
   by_cases c3:0≤x8_1
   case neg=>
    rw[if_neg c3]at H;exact absurd H (by simp)
   rw[if_pos c3]at H;have c3b0:=decide_eq_true c3;clear c3
   by_cases c4:x8_1<(l0.length:Int)
   case neg=>
    rw[if_neg c4]at H;exact absurd H (by simp)
   rw[if_pos c4]at H;have c4b0:=decide_eq_true c4;clear c4
   by_cases c5:x8_1>0
   case neg=>
    rw[if_neg c5]at H;have c5b0:=decide_eq_false c5;clear c5
    by_cases c8:x3_1.size+(bn ByteArray.empty l0 x8_1).size≤9223372036854775807
    case neg=>
     rw[if_neg c8]at H;exact absurd H (by simp)
    rw[if_pos c8]at H;have c8b0:=eq_true c8;have c8b1:=decide_eq_true c8
    try have c8b2:(9223372036854775807<x3_1.size+(bn ByteArray.empty l0 x8_1).size)=False:=eq_false (Nat.not_lt.2 c8)
    have H':=a0_ H;clear H;have g0:=t0_ (x8_1);have g1:=tl_ (x8_1) (l0.length);obtain⟨g4,g2,g3⟩:=Kd.at_string HR0.out x8_1 (of_eq_true g0) (of_eq_true g1);cases g2;go_wp2;go_roundg k1
    case measure=>have:=HK1.out;omega
    case rel=>exact⟨(x3_1++(bn ByteArray.empty l0 x8_1)),(wrap64 (x8_1+1)),rs_,rs_,H',jl_ HK1,dr_⟩
   rw[if_pos c5]at H;have c5b0:=decide_eq_true c5;clear c5
   by_cases c6:x3_1.size+1≤9223372036854775807
   case neg=>
    rw[if_neg c6]at H;exact absurd H (by simp)
   rw[if_pos c6]at H;have c6b0:=eq_true c6;have c6b1:=decide_eq_true c6
   try have c6b2:(9223372036854775807<x3_1.size+1)=False:=eq_false (Nat.not_lt.2 c6)
   by_cases c7:(x3_1++(⟨#[46]⟩:ByteArray)).size+(bn ByteArray.empty l0 x8_1).size≤9223372036854775807
   case neg=>
    rw[if_neg c7]at H;exact absurd H (by simp)
   rw[if_pos c7]at H;have c7b0:=eq_true c7;have c7b1:=decide_eq_true c7
   try have c7b2:(9223372036854775807<(x3_1++(⟨#[46]⟩:ByteArray)).size+(bn ByteArray.empty l0 x8_1).size)=False:=eq_false (Nat.not_lt.2 c7)
   have H':=a0_ H;clear H;have g0:=t0_ (x8_1);have g1:=tl_ (x8_1) (l0.length);obtain⟨g4,g2,g3⟩:=Kd.at_string HR0.out x8_1 (of_eq_true g0) (of_eq_true g1);cases g2;go_wp2;go_roundg k1
   case measure=>have:=HK1.out;omega
   case rel=>exact⟨((x3_1++(⟨#[46]⟩:ByteArray))++(bn ByteArray.empty l0 x8_1)),(wrap64 (x8_1+1)),rs_,rs_,H',jl_ HK1,dr_⟩
def bo.l0: Nat→ByteArray→Int→Option (ByteArray)
 | 0,_,_=>none
 | k+1,x0,x3=>if x3<(x0.size:Int)then(if 0≤x3 then(if(bt x0 x3)=46 then(if 0≤(wrap64 (x3+1))then(if(wrap64 (x3+1))≤(x0.size:Int)then(some (x0.extract ((wrap64 (x3+1)):Int).toNat x0.size))else(none))else(none))else(bo.l0 k x0 (wrap64 (x3+1))))else(none))else(some (⟨#[]⟩:ByteArray))
def bo.f(k:Nat)(a0:ByteArray): Option (ByteArray):=bo.l0 k a0 0
theorem bo.mono_l: ∀ k,(∀ y0 y1,LeO (bo.l0 k y0 y1) (bo.l0 (k+1) y0 y1))
 | 0=>fun _ _ r h=>by simp[bo.l0]at h
 | k+1=>by
  have ih0:=bo.mono_l k
  · intro y0 y1
    unfold bo.l0
    repeat' first|(with_reducible first|exact ih0 _ _|exact LeO.refl _|exact LeO.none _|refine LeO.ite ?_ ?_|refine LeO.bind ?_ (fun _=>?_))|exact LeO.none _|refine LeO.ite ?_ ?_|refine LeO.bind ?_ (fun _=>?_)
theorem bo.m: ∀ a0 k,LeO (bo.f k a0) (bo.f (k+1) a0):=by
 intro a0 k;have ih0:=bo.mono_l k;unfold bo.f
 repeat' first|(with_reducible first|exact ih0 _ _|exact LeO.refl _|exact LeO.none _|refine LeO.ite ?_ ?_|refine LeO.bind ?_ (fun _=>?_))|exact LeO.none _|refine LeO.ite ?_ ?_|refine LeO.bind ?_ (fun _=>?_)
theorem bo.c(k:Nat)(a0:ByteArray)(r:ByteArray)(w:World)(h:bo.f k a0=some r):
 Calls Tryz.prog 238 #[.string a0] w fun e w'=>e = .returned (.string r)∧cC w w':=by
 have H:(bo.l0 k a0 0)=some r:=h;clear h;have H':=a0_ H;clear H;go_enter Tryz.func238,Tryz.ntmps238;go_wp2;go_loopg [3] k (fun kq v3 w'=> ∃ (x3_1:Int),v3 = .int .i64 x3_1∧ab (bo.l0 kq a0 x3_1=some r)∧ab (kq≤k)∧cC w w')
 case atStart=>exact⟨(0),rs_,H',⟨Nat.le_refl _⟩,dr_⟩
 case round=>
  clear H';obtain⟨x3_1,rfl,HA,HK1,⟨m1,rfl⟩⟩:=hrel
  cases gk with
  | zero=>exact absurd HA.out (by simp[bo.l0])
  | succ k1=>
   have H:=HA.out;clear HA;simp only[bo.l0]at H
   by_cases c2:x3_1<(a0.size:Int)
   case neg=>
    rw[if_neg c2]at H;have c2b0:=decide_eq_false c2;clear c2;obtain rfl:=Option.some.inj H;go_wp2;go_ret;exact⟨rs_,dr_⟩
   rw[if_pos c2]at H;have c2b0:=decide_eq_true c2;clear c2
   by_cases c3:0≤x3_1
   case neg=>
    rw[if_neg c3]at H;exact absurd H (by simp)
   rw[if_pos c3]at H;have c3b0:=decide_eq_true c3;clear c3
   by_cases c5:(bt a0 x3_1)=46
   case neg=>
    rw[if_neg c5]at H;have c5b0:=beq_eq_false_iff_ne.mpr c5;have c5b1:=bne_iff_ne.mpr c5;have H':=a0_ H;clear H;have p4:=t0_ (x3_1);have q4:=tl_ (x3_1) (a0.size);have hx4:=cK a0 x3_1;go_wp2;go_roundg k1
    case measure=>have:=HK1.out;omega
    case rel=>exact⟨(wrap64 (x3_1+1)),rs_,H',jl_ HK1,dr_⟩
   rw[if_pos c5]at H;have c5b0:=beq_iff_eq.mpr c5;have c5b1:=bne_eq_false_iff_eq.mpr c5;clear c5;obtain⟨ji6,hji6⟩:∃ j_:Int,(wrap64 (x3_1+1))=j_:=⟨_,rfl⟩
   (first|rw[hji6]at H|simp only[hji6]at H)
   have hji6w:(IntKind.i64.wrap (x3_1+1))=ji6:=(bu _).trans hji6
   by_cases c7:0≤(ji6)
   case neg=>
    rw[if_neg c7]at H;exact absurd H (by simp)
   rw[if_pos c7]at H;have c7b0:=eq_true c7;have c7b1:=decide_eq_true c7;clear c7
   by_cases c8:(ji6)≤(a0.size:Int)
   case neg=>
    rw[if_neg c8]at H;exact absurd H (by simp)
   rw[if_pos c8]at H;have c8b0:=eq_true c8;have c8b1:=decide_eq_true c8;clear c8;obtain rfl:=Option.some.inj H;have p4:=t0_ (x3_1);have q4:=tl_ (x3_1) (a0.size);have hx4:=cK a0 x3_1;go_wp2;go_ret;exact⟨by first|rfl|(simp;done)|(simp only[← hji6]<;>(first|rfl|simp))|(simp[*];done),dr_⟩
end Go.Proofs.YtiegkjimpclmaaaGreatDoor.P
