/- FnCutTo: part 8 of 17 of my texts for this claim, joined; the theorem stands in the last. Conditions: none beyond the statement's. -/
import Derived.Test.YtiegkjimpclmaaaGreatDoorMFnCutTox6
import Derived.Lib.AtoiTie
import Derived.Lib.ItoaMem
import Derived.Lib.ItoaLen
open Go.RowKit Go.Proofs.YtiegkjimpclmaaaGreatDoorW.PrintWords Go.Proofs.YtiegkjimpclmaaaGreatDoorW.PrintLast Go.Proofs.YtiegkjimpclmaaaGreatDoorW.PrintMore
set_option linter.unusedVariables false
set_option linter.unusedSimpArgs false
set_option maxHeartbeats 8000000
set_option maxRecDepth 100000
namespace Go.Proofs.YtiegkjimpclmaaaGreatDoor.Pure
open Go.Proofs.YtiegkjimpclmaaaGreatDoor.P
def jw(b:UInt8): Bool:=decide (48≤b.toNat∧b.toNat≤57)
def jy(a:Nat)(l:List UInt8): Nat:=l.foldl (fun a b=>a*10+(b.toNat-48)) a
def eE(l:List UInt8): Nat:=jy 0 l
def fk(l:List UInt8): Bool:=decide (1≤l.length∧l.length≤10)&&l.all jw&&(decide (l.length=1)||decide (l.head? ≠ some 48))
theorem jZ(a:Nat)(p q:List UInt8): jy a (p++q)=jy (jy a p) q:=by unfold jy;rw[List.foldl_append]
theorem kv(a:Nat)(b:UInt8): jy a [b]=a*10+(b.toNat-48):=rfl
theorem jj: ∀ (l:List UInt8) (a:Nat),l.all jw=true→Lib.decFrom a l=some (jy a l)
 | [],a,_=>rfl
 | b::r,a,h=>by
  rw[List.all_cons,Bool.and_eq_true]at h;have hb:48≤b.toNat∧b.toNat≤57:=of_decide_eq_true h.1;unfold Lib.decFrom Lib.digitVal;rw[if_pos hb];exact jj r _ h.2
theorem ly: ∀ (l:List UInt8) (a:Nat),l.all jw=true→jy a l<(a+1)*10^l.length
 | [],a,_=>by show a<(a+1)*10^0;omega
 | b::r,a,h=>by
  rw[List.all_cons,Bool.and_eq_true]at h;have hb:48≤b.toNat∧b.toNat≤57:=of_decide_eq_true h.1;have ih:=ly r (a*10+(b.toNat-48)) h.2;show jy (a*10+(b.toNat-48)) r<_;rw[List.length_cons,Nat.pow_succ];have h1:(a*10+(b.toNat-48)+1)*10^r.length≤((a+1)*10)*10^r.length:=Nat.mul_le_mul_right _ (by omega)
  have h2:((a+1)*10)*10^r.length=(a+1)*(10^r.length*10):=by rw[Nat.mul_assoc,Nat.mul_comm 10]
  omega
theorem ka: ∀ (n u:Nat),u≤n→(Lib.decDigits u).all jw=true∧eE (Lib.decDigits u)=u∧1≤(Lib.decDigits u).length∧(1≤u→(Lib.decDigits u).head? ≠ some 48)
 | n,u,hu=>by
  unfold Lib.decDigits
  by_cases h:u<10
  · rw [dif_pos h]
    have hb:(UInt8.ofNat (48+u)).toNat=48+u:=by rw[UInt8.toNat_ofNat'];omega
    refine⟨?_,?_,by simp,fun h1=>?_⟩
    ·rw[List.all_cons,List.all_nil,Bool.and_true];unfold jw;rw[hb];exact decide_eq_true (by omega)
    ·show 0*10+((UInt8.ofNat (48+u)).toNat-48)=u;rw[hb];omega
    · intro e
      have e2:=congrArg UInt8.toNat (Option.some.inj e);rw[hb]at e2;have:(48:UInt8).toNat=48:=rfl;omega
  · rw [dif_neg h]
    match n,hu with
    | 0,hu=>omega
    | n+1,hu=>
     obtain⟨g1,g2,g3,g4⟩:=ka n (u / 10) (by omega)
     have hb:(UInt8.ofNat (48+u%10)).toNat=48+u%10:=by rw[UInt8.toNat_ofNat'];omega
     refine⟨?_,?_,by rw[List.length_append];omega,fun _=>?_⟩
     ·rw[List.all_append,g1,Bool.true_and,List.all_cons,List.all_nil,Bool.and_true];unfold jw;rw[hb];exact decide_eq_true (by omega)
     ·unfold eE at g2 ⊢;rw[jZ,g2,kv,hb];omega
     · have g5 := g4 (by omega)
       cases hd:Lib.decDigits (u / 10)with
       | nil=>rw[hd]at g3;simp at g3
       | cons x r=>rw[hd]at g5;simpa using g5
theorem jk: ∀ (n:Nat) (l:List UInt8),l.length≤n→l≠[]→l.all jw=true→(l.length=1∨l.head? ≠ some 48)→Lib.decDigits (eE l)=l
 | n,l,hn,hne,ha,hh=>by
  rcases List.eq_nil_or_concat l with rfl|⟨p,b,rfl⟩
  ·exact absurd rfl hne
  · rw [List.concat_eq_append] at *
    rw[List.all_append,Bool.and_eq_true,List.all_cons,Bool.and_eq_true]at ha;have hb:48≤b.toNat∧b.toNat≤57:=of_decide_eq_true ha.2.1
    have hv:eE (p ++ [b])=eE p*10+(b.toNat-48):=by unfold eE;rw[jZ,kv]
    have hbb:UInt8.ofNat (48+(b.toNat-48))=b:=by rw[show 48+(b.toNat-48)=b.toNat by omega];exact UInt8.ofNat_toNat
    rw[hv]
    by_cases hp:p=[]
    · subst hp
      unfold Lib.decDigits;rw[show eE []=0 from rfl,dif_pos (by omega),Nat.zero_mul,Nat.zero_add,hbb];rfl
    · match n,hn with
      | 0,hn=>simp at hn
      | n+1,hn=>
       have hpl:=List.length_pos_iff.2 hp
       have hhp:p.head? ≠ some 48:=by
        rcases hh with hh|hh
        ·rw[List.length_append]at hh;simp at hh;exact absurd hh hp
        · cases p with
          | nil=>exact absurd rfl hp
          | cons x r=>simpa using hh
       have ih:=jk n p (by simp at hn;omega) hp ha.1 (.inr hhp)
       have hpos:1≤eE p:=by
        cases p with
        | nil=>exact absurd rfl hp
        | cons x r=>
         rw[List.all_cons,Bool.and_eq_true]at ha;have hx:48≤x.toNat∧x.toNat≤57:=of_decide_eq_true ha.1.1
         have hx2:x.toNat≠48:=fun e=>hhp (by show some x=some 48;rw[show x=48 from UInt8.toNat_inj.1 e])
         have mono:∀ (r:List UInt8) (a:Nat),a≤jy a r:=by
          intro r
          induction r with
          | nil=>intro a;exact Nat.le_refl _
          | cons y r ihr=>intro a;have:=ihr (a*10+(y.toNat-48));show a≤jy (a*10+(y.toNat-48)) r;omega
         have:=mono r (0*10+(x.toNat-48));show 1≤jy (0*10+(x.toNat-48)) r;omega
       unfold Lib.decDigits;rw[dif_neg (by omega),show(eE p*10+(b.toNat-48)) / 10=eE p by omega,show(eE p*10+(b.toNat-48))%10=b.toNat-48 by omega,ih,hbb]
theorem qt{l:List UInt8}(h:fk l=true): eE l<10000000000:=by
 unfold fk at h;simp only[Bool.and_eq_true,decide_eq_true_eq]at h;have h1:=ly l 0 h.1.2;have h2:10^l.length≤10^10:=Nat.pow_le_pow_right (by omega) h.1.1.2;unfold eE;omega
theorem js: ∀ (k u:Nat),k+1<Lib.nDigits u→10^(k+1)≤u
 | 0,u,h=>by
  by_cases hu:u<10
  ·rw[Lib.nDigits_small hu]at h;omega
  ·omega
 | k+1,u,h=>by
  by_cases hu:u<10
  ·rw[Lib.nDigits_small hu]at h;omega
  · rw [Lib.nDigits_big hu] at h
    have ih:=js k (u / 10) (by omega);rw[Nat.pow_succ];omega
theorem eW(s:ByteArray)(most:Int)(hs:s.size≤281474976710656)(h0:0≤most)(h1:most<9999999999): ∃ v,dk.f s most=some (v,fk s.data.toList&&decide ((eE s.data.toList:Int)≤most))∧((fk s.data.toList&&decide ((eE s.data.toList:Int)≤most))=true→v=(eE s.data.toList:Int)):=by
 unfold dk.f;rw[if_pos hs,Lib.toList_data];generalize hl:s.data.toList=l
 by_cases hc:fk l=true
 · have hc' := hc
   unfold fk at hc';simp only[Bool.and_eq_true,Bool.or_eq_true,decide_eq_true_eq]at hc';have hv:=qt hc
   have hne:l≠[]:=by rintro rfl;simp at hc'
   have hat:Lib.atoiAll l = .ok (eE l:Int):=by
    rw[Lib.atoiAll_short l (by omega)]
    cases l with
    | nil=>exact absurd rfl hne
    | cons b r=>
     have ha:=hc'.1.2;rw[List.all_cons,Bool.and_eq_true]at ha;have hb:48≤b.toNat∧b.toNat≤57:=of_decide_eq_true ha.1
     have n45:(b==45)=false:=beq_eq_false_iff_ne.mpr fun e=>by rw[e]at hb;have:(45:UInt8).toNat=45:=rfl;omega
     have n43:(b==43)=false:=beq_eq_false_iff_ne.mpr fun e=>by rw[e]at hb;have:(43:UInt8).toNat=43:=rfl;omega
     unfold Lib.atoi Lib.decNat;show Lib.NumEnd.ofOption (if(b==45)=true then _ else(if(b==43)=true then _ else Option.map (fun(m:Nat)=>(m:Int)) (if(b::r).isEmpty=true then none else Lib.decFrom 0 (b::r))))=_;rw[n45,n43,if_neg (by simp),if_neg (by simp),if_neg (by simp),jj _ 0 hc'.1.2];rfl
   have hit:Lib.itoa (eE l:Int)=l:=by
    rw[Lib.itoa_nonneg];exact jk l.length l (Nat.le_refl _) hne hc'.1.2 hc'.2
   rw[hat];refine⟨(eE l:Int),?_,fun _=>rfl⟩;simp only[hit,beq_self_eq_true,Bool.and_true,hc,Bool.true_and]
   congr 2
   rw[decide_eq_decide];omega
 · rw [Bool.eq_false_iff.mpr hc, Bool.false_and]
   cases ha:Lib.atoiAll l
   · next v=>
     refine⟨v,?_,fun h=>by cases h⟩;show some (v,decide (0≤v∧v≤most)&&(Lib.itoa v==l))=some (v,false)
     congr 2
     rw[Bool.and_eq_false_iff]
     by_cases hv:0≤v∧v≤most
     · right
       rw[beq_eq_false_iff_ne];intro e;apply hc;obtain⟨u,rfl⟩:∃ u:Nat,v=(u:Int):=⟨v.toNat,by omega⟩;rw[Lib.itoa_nonneg]at e;obtain⟨g1,g2,g3,g4⟩:=ka u u (Nat.le_refl _)
       have hlen:(Lib.decDigits u).length≤10:=by
        rw[Lib.decDigits_length]
        by_cases h10:u<10
        ·rw[Lib.nDigits_small h10];omega
        · by_cases hbig : Lib.nDigits u ≤ 10
          ·exact hbig
          · have := js 9 u (by omega)
            omega
       rw[← e];unfold fk;rw[g1,decide_eq_true (by omega),Bool.true_and,Bool.true_and,Bool.or_eq_true]
       by_cases hu:1≤u
       ·exact .inr (decide_eq_true (g4 hu))
       · left
         obtain rfl:u=0:=by omega
         rw[Lib.decDigits_one (by omega)];rfl
     · left
       exact decide_eq_false hv
   ·exact⟨0,rfl,fun h=>by cases h⟩
   ·exact⟨_,rfl,fun h=>by cases h⟩
def gE(l:List UInt8): Int:=if fk l=true then(eE l:Int)else -1
theorem lW(s:ByteArray)(hs:s.size≤10): ∀ (m i a:Nat),i+m=s.size→a=eE (s.data.toList.take i)→(s.data.toList.take i).all jw=true →
 Ev (fun k=>aN.l0 k s (a:Int) (i:Int)) (if s.data.toList.all jw=true then(eE s.data.toList:Int)else -1)
 | 0,i,a,him,ha,hd=>by
  rw[List.take_of_length_le (by rw[← aU];omega)]at ha hd;rw[if_pos hd,← ha];refine Ev.step (f:=fun _=>some (a:Int)) (fun k=>?_) (Ev.now _);show aN.l0 (k+1) s (a:Int) (i:Int)=_
  conv=>lhs;unfold aN.l0
  rw[if_neg (by omega)]
 | m+1,i,a,him,ha,hd=>by
  have hi:i<s.data.toList.length:=by rw[← aU];omega
  have hbt:=eS s i hi
  have htk:s.data.toList.take (i+1)=s.data.toList.take i ++ [s.data.toList[i]]:=by rw[List.take_add_one,List.getElem?_eq_getElem hi];rfl
  have halt:a<10^10:=by
   have:=ly _ 0 hd;have h2:10^(s.data.toList.take i).length≤10^10:=Nat.pow_le_pow_right (by omega) (by rw[List.length_take];omega);rw[ha];unfold eE;omega
  by_cases hb:jw s.data.toList[i]=true
  · have hb' : 48 ≤ (s.data.toList[i]).toNat ∧ (s.data.toList[i]).toNat ≤ 57 := of_decide_eq_true hb
    have ih:=lW s hs m (i+1) (a*10+((s.data.toList[i]).toNat-48)) (by omega) (by rw[htk];unfold eE at ha ⊢;rw[jZ,← ha,kv]) (by rw[htk,List.all_append,hd,Bool.true_and,List.all_cons,hb];rfl);refine Ev.step (fun k=>?_) ih;show aN.l0 (k+1) s (a:Int) (i:Int)=_
    conv=>lhs;unfold aN.l0
    have hw:wrap64 ((wrap64 (10*(a:Int)))+((((s.data.toList[i]).toNat:Int)-48)%256))=((a*10+((s.data.toList[i]).toNat-48):Nat):Int):=by
     have h1:wrap64 (10*(a:Int))=10*(a:Int):=by unfold wrap64;omega
     rw[h1];unfold wrap64;omega
    rw[if_pos (by omega),if_pos (by omega),hbt,if_neg (by omega),if_neg (by omega),hw,d_ (by omega)]
  · have hall:s.data.toList.all jw=false:=by
     rw[List.all_eq_false];exact⟨_,List.getElem_mem hi,hb⟩
    rw[hall,if_neg (by simp)];have hb':¬ (48≤(s.data.toList[i]).toNat∧(s.data.toList[i]).toNat≤57):=of_decide_eq_false (Bool.eq_false_iff.mpr hb);refine Ev.step (f:=fun _=>some (-1)) (fun k=>?_) (Ev.now _);show aN.l0 (k+1) s (a:Int) (i:Int)=_
    conv=>lhs;unfold aN.l0
    rw[if_pos (by omega),if_pos (by omega),hbt]
    by_cases h1:((s.data.toList[i]).toNat:Int)<48
    ·rw[if_pos h1]
    ·rw[if_neg h1,if_pos (by omega)]
theorem mG(s:ByteArray)(hs:s.size<4611686018427387904): Ev (fun k=>aN.f k s) (gE s.data.toList):=by
 have hj:Ev (fun k=>aN.j0 k s true) (-1):=Ev.step (f:=fun _=>some (-1)) (fun k=>rfl) (Ev.now _);have hin:cj.f (s.size:Int) 1 10=some (decide (1≤(s.size:Int)∧(s.size:Int)≤10)):=dA _ _ _
 by_cases h1:1≤(s.size:Int)∧(s.size:Int)≤10
 · have hlen : 0 < s.data.toList.length := by rw [← aU]; omega
   have hbt:=eS s 0 hlen
   have hmain:∀ ld:Bool,ld=decide (s.data.toList.head? = some 48∧s.size>1)→Ev (fun k=>aN.j0 k s ld) (gE s.data.toList):=by
    intro ld hld
    cases ld with
    | true=>
     have h2:=of_decide_eq_true hld.symm
     have:fk s.data.toList=false:=by
      unfold fk;rw[decide_eq_false (show ¬ s.data.toList.length=1 by rw[← aU];omega),decide_eq_false (show ¬ s.data.toList.head? ≠ some 48 from fun h=>h h2.1),Bool.or_false,Bool.and_false]
     unfold gE;rw[this,if_neg (by simp)];exact hj
    | false=>
     have h2:=of_decide_eq_false hld.symm;have hl:=lW s (by omega) s.size 0 0 (by omega) rfl rfl
     have e:(if s.data.toList.all jw=true then(eE s.data.toList:Int)else -1)=gE s.data.toList:=by
      unfold gE fk;rw[decide_eq_true (show 1≤s.data.toList.length∧s.data.toList.length≤10 by rw[← aU];omega),Bool.true_and]
      have h3:(decide (s.data.toList.length=1)||decide (s.data.toList.head? ≠ some 48))=true:=by
       rw[Bool.or_eq_true]
       by_cases h4:s.data.toList.head? = some 48
       ·exact .inl (decide_eq_true (by rw[← aU];have:¬ s.size>1:=fun h5=>h2 ⟨h4,h5⟩;omega))
       ·exact .inr (decide_eq_true h4)
      rw[h3,Bool.and_true]
     rw[← e];exact Ev.step (fun k=>rfl) hl
   have hhead:s.data.toList.head? = some (s.data.toList[0]):=by rw[List.head?_eq_getElem?,List.getElem?_eq_getElem hlen]
   refine Ev.congr (f:=fun k=>aN.j0 k s (decide (s.data.toList.head? = some 48∧s.size>1))) (fun k=>?_) (hmain _ rfl);unfold aN.f;rw[hin,Option.bind_some,decide_eq_true h1,if_pos rfl,if_pos (by omega)];have hb0:bt s 0=((s.data.toList[0]).toNat:Int):=hbt;rw[hb0,hhead]
   by_cases h48:s.data.toList[0]=48
   · rw [if_pos (by rw [h48]; rfl)]
     congr 1
     rw[decide_eq_decide]
     constructor
     ·intro h;exact⟨by rw[h48],by omega⟩
     ·intro h;omega
   · rw [if_neg (fun h => h48 (UInt8.toNat_inj.1 (by have : (48 : UInt8).toNat = 48 := rfl; omega)))]
     congr 1
     rw[eq_comm,decide_eq_false_iff_not];rintro⟨h,_⟩;exact h48 (Option.some.inj h)
 · have:fk s.data.toList=false:=by
    unfold fk;rw[decide_eq_false (show ¬ (1≤s.data.toList.length∧s.data.toList.length≤10) by rw[← aU];omega)];rfl
   unfold gE;rw[this,if_neg (by simp)];refine Ev.congr (fun k=>?_) hj;unfold aN.f;rw[hin,Option.bind_some,decide_eq_false h1,if_neg (by simp)]
end Go.Proofs.YtiegkjimpclmaaaGreatDoor.Pure
namespace Go.Proofs.YtiegkjimpclmaaaGreatDoor.P
attribute [local go_sem] cG cD c_ cZ ci ch cE cH
def bW.f(k:Nat)(a0_0:ByteArray)(a0_1:Int)(a0_2:Int)(a0_3:ByteArray): Option (Bool):=(cg.f a0_0).bind fun g1=>(if g1=true then((cx.f a0_2 0 100000).bind fun g2=>(if g2=true then(if(a0_3.size:Int)>100 then(some false)else((ap.f k a0_1 a0_3).bind fun g0=>(some g0.2)))else(some false)))else(some false))
theorem bW.c(k:Nat)(a0_0:ByteArray)(a0_1:Int)(a0_2:Int)(a0_3:ByteArray)(r:Bool)(w:World)(h:bW.f k a0_0 a0_1 a0_2 a0_3=some r)(hv_:Vars w:=by exact vv_):
 Calls Tryz.prog 29 #[.agg #[.string a0_0,.int .i64 a0_1,.int .i64 a0_2,.string a0_3]] w fun e w'=>e = .returned (.bool r)∧Below w.heap.size w w':=by
 have HV_:=a0_ hv_;clear hv_;have hu45:=Tryz.underlying45;have HB:=a0_ (Below.refl w.heap.size w);have H:=h;clear h;unfold bW.f at H;obtain⟨g4,A2,H⟩:=ob_ H
 by_cases c3:g4=true
 case neg=>
  replace c3:=Bool.eq_false_iff.mpr c3;subst c3;rw[if_neg ff_]at H;obtain rfl:=Option.some.inj H;go_enter Tryz.func29,Tryz.ntmps29;go_wp2_with (first|((with_reducible refine ax (N:=1) rfl ?_);(try(refine bP (by rfl) ?_;dsimp only));refine cm 1 #[.string a0_0,.int .i64 a0_1,.int .i64 a0_2,.string a0_3] 45 (fun g1 hg g9 hbox hb=>?_);have g0:=a0_ (hbox);have g2:=a0_ (gw_ hg:w.heap.size≤g1);replace HB:=a0_ (aa ay hb);have g3:=g2;clear hb hbox hg;obtain⟨_,_,_,_,_,_,_,_⟩:=cY g0.out)|((with_reducible refine gt_ 83 rfl ?_);refine gs_ 7 Tryz.func83 #[.string a0_0] ?_;(with_reducible refine(cg.c a0_0 false _ A2.out).mono ?_);rintro e j0 ⟨rfl,hb⟩;refine⟨_,rfl,?_⟩;replace g0:=a0_ (bq g0 hb);replace HB:=a0_ (aa aD hb);clear hb));go_ret;exact⟨rr_,aD⟩
 subst c3;rw[if_pos rfl]at H;obtain⟨g5,A4,H⟩:=ob_ H
 by_cases c5:g5=true
 case neg=>
  replace c5:=Bool.eq_false_iff.mpr c5;subst c5;rw[if_neg ff_]at H;obtain rfl:=Option.some.inj H;go_enter Tryz.func29,Tryz.ntmps29;go_wp2_with (first|((with_reducible refine ax (N:=1) rfl ?_);(try(refine bP (by rfl) ?_;dsimp only));refine cm 1 #[.string a0_0,.int .i64 a0_1,.int .i64 a0_2,.string a0_3] 45 (fun g1 hg j1 hbox hb=>?_);have g0:=a0_ (hbox);have g2:=a0_ (gw_ hg:w.heap.size≤g1);replace HB:=a0_ (aa ay hb);have g3:=g2;clear hb hbox hg;obtain⟨_,_,_,_,_,_,_,_⟩:=cY g0.out)|((with_reducible refine gt_ 83 rfl ?_);refine gs_ 7 Tryz.func83 #[.string a0_0] ?_;(with_reducible refine(cg.c a0_0 true _ A2.out).mono ?_);rintro e j2 ⟨rfl,hb⟩;refine⟨_,rfl,?_⟩;replace g0:=a0_ (bq g0 hb);replace HB:=a0_ (aa aD hb);clear hb;obtain⟨_,_,_,_,_,_,_,_⟩:=cY g0.out)|(go_at_call 84;(with_reducible refine(cx.c a0_2 0 100000 false _ A4.out).mono ?_);rintro e w' ⟨rfl,⟨nd,rfl⟩⟩));go_ret;exact⟨rr_,aD⟩
 subst c5;rw[if_pos rfl]at H
 by_cases c6:(a0_3.size:Int)>100
 case pos=>
  rw[if_pos c6]at H;have c6b0:=decide_eq_true c6;have c6b1:decide (100<a0_3.size)=true:=decide_eq_true (by omega);clear c6;obtain rfl:=Option.some.inj H;go_enter Tryz.func29,Tryz.ntmps29;go_wp2_with (first|((with_reducible refine ax (N:=1) rfl ?_);(try(refine bP (by rfl) ?_;dsimp only));refine cm 1 #[.string a0_0,.int .i64 a0_1,.int .i64 a0_2,.string a0_3] 45 (fun g1 hg w7 hbox hb=>?_);have g0:=a0_ (hbox);have g2:=a0_ (gw_ hg:w.heap.size≤g1);replace HB:=a0_ (aa ay hb);have g3:=g2;clear hb hbox hg;obtain⟨_,_,_,_,_,_,_,_⟩:=cY g0.out)|((with_reducible refine gt_ 83 rfl ?_);refine gs_ 7 Tryz.func83 #[.string a0_0] ?_;(with_reducible refine(cg.c a0_0 true _ A2.out).mono ?_);rintro e w9 ⟨rfl,hb⟩;refine⟨_,rfl,?_⟩;replace g0:=a0_ (bq g0 hb);replace HB:=a0_ (aa aD hb);clear hb;obtain⟨_,_,_,_,_,_,_,_⟩:=cY g0.out)|(go_at_call 84;(with_reducible refine(cx.c a0_2 0 100000 true _ A4.out).mono ?_);rintro e w' ⟨rfl,⟨nd,rfl⟩⟩));go_ret;exact⟨rr_,aD⟩
 rw[if_neg c6]at H;have c6b0:=decide_eq_false c6;have c6b1:decide (100<a0_3.size)=false:=decide_eq_false (by omega);clear c6;obtain⟨⟨g6,g7⟩,g8,H⟩:=ob_ H;obtain rfl:=Option.some.inj H;go_enter Tryz.func29,Tryz.ntmps29;go_wp2_with (first|((with_reducible refine ax (N:=1) rfl ?_);(try(refine bP (by rfl) ?_;dsimp only));refine cm 1 #[.string a0_0,.int .i64 a0_1,.int .i64 a0_2,.string a0_3] 45 (fun g1 hg j3 hbox hb=>?_);have g0:=a0_ (hbox);have g2:=a0_ (gw_ hg:w.heap.size≤g1);replace HB:=a0_ (aa ay hb);have g3:=g2;clear hb hbox hg;obtain⟨_,_,_,_,_,_,_,_⟩:=cY g0.out)|((with_reducible refine gt_ 83 rfl ?_);refine gs_ 7 Tryz.func83 #[.string a0_0] ?_;(with_reducible refine(cg.c a0_0 true _ A2.out).mono ?_);rintro e j4 ⟨rfl,hb⟩;refine⟨_,rfl,?_⟩;replace g0:=a0_ (bq g0 hb);replace HB:=a0_ (aa aD hb);clear hb;obtain⟨_,_,_,_,_,_,_,_⟩:=cY g0.out)|(go_at_call 84;(with_reducible refine(cx.c a0_2 0 100000 true _ A4.out).mono ?_);rintro e w' ⟨rfl,⟨nd,rfl⟩⟩)|((with_reducible refine gt_ 31 rfl ?_);refine gs_ 26 Tryz.func31 #[.int .i64 a0_1,.string a0_3] ?_;(with_reducible refine(ap.c k a0_1 a0_3 g6 g7 _ g8.out).mono ?_);rintro e j5 ⟨rfl,hb⟩;refine⟨_,rfl,?_⟩;replace g0:=a0_ (bq g0 hb);replace HB:=a0_ (aa aD hb);clear hb));go_ret;exact⟨rr_,aD⟩
def ez.f(k:Nat)(a0:Int)(a1:ByteArray): Option (ByteArray):=(ap.f k a0 a1).bind fun g0=>(if g0.2=true then(some g0.1)else(some (⟨#[]⟩:ByteArray)))
theorem ez.c(k:Nat)(a0:Int)(a1:ByteArray)(r:ByteArray)(w:World)(h:ez.f k a0 a1=some r)(hv_:Vars w:=by exact vv_):
 Calls Tryz.prog 141 #[.int .i64 a0,.string a1] w fun e w'=>e = .returned (.string r)∧Below w.heap.size w w':=by
 have HV_:=a0_ hv_;clear hv_;have HB:=a0_ (Below.refl w.heap.size w);have H:=h;clear h;unfold ez.f at H;obtain⟨⟨g0,g1⟩,A3,H⟩:=ob_ H
 by_cases c4:g1=true
 case pos=>
  subst c4;rw[if_pos rfl]at H;obtain rfl:=Option.some.inj H;go_enter Tryz.func141,Tryz.ntmps141;go_wp2_with (first|((with_reducible refine gt_ 31 rfl ?_);refine gs_ 10 Tryz.func31 #[.int .i64 a0,.string a1] ?_;(with_reducible refine(ap.c k a0 a1 g0 true _ A3.out).mono ?_);rintro e w5 ⟨rfl,hb⟩;refine⟨_,rfl,?_⟩;replace HB:=a0_ (aa ay hb);clear hb));go_ret;exact⟨rr_,ay⟩
 replace c4:=Bool.eq_false_iff.mpr c4;subst c4;rw[if_neg ff_]at H;obtain rfl:=Option.some.inj H;go_enter Tryz.func141,Tryz.ntmps141;go_wp2_with (first|((with_reducible refine gt_ 31 rfl ?_);refine gs_ 10 Tryz.func31 #[.int .i64 a0,.string a1] ?_;(with_reducible refine(ap.c k a0 a1 g0 false _ A3.out).mono ?_);rintro e w6 ⟨rfl,hb⟩;refine⟨_,rfl,?_⟩;replace HB:=a0_ (aa ay hb);clear hb));go_ret;exact⟨rr_,ay⟩
def bS.l0: Nat→List (S45)→List (S45)→Int→Int→Option (Bool)
 | 0,_,_,_,_=>none
 | k+1,x0,x5,x6,x7=>if x7<x6 then(if 0≤x7 then(if x7<(x5.length:Int)then((cf.f k ((ae x5 x7).f0) ((ae x5 x7).f1) ((ae x5 x7).f2) ((ae x5 x7).f3)).bind fun g0=>(if g0=true then(bS.l0 k x0 x5 x6 (wrap64 (x7+1)))else(some false)))else(none))else(none))else(some (decide ((x0.length:Int)≤12)))
def bS.f(k:Nat)(l0:List (S45)): Option (Bool):=bS.l0 k l0 l0 (l0.length:Int) 0
theorem bS.c(k:Nat)(A0:Option Addr)(c0:Nat)(l0:List (S45))(r:Bool)(w:World)(hr0:Kd.C k45 w A0 l0.length l0)(hc0:l0.length≤c0)(h:bS.f k l0=some r):
 Calls Tryz.prog 158 #[.slice A0 l0.length c0] w fun e w'=>e = .returned (.bool r)∧Below w.heap.size w w':=by
 have hu45:=Tryz.underlying45;have HR0:=a0_ hr0;have HC0:=a0_ hc0;clear hr0 hc0;have HB:=a0_ (Below.refl w.heap.size w);have H:=h;clear h;unfold bS.f at H;have H':=a0_ H;clear H;go_enter Tryz.func158,Tryz.ntmps158;go_wp2;go_loopg [7] k (fun kq v7 w'=> ∃ (x7_1:Int),v7 = .int .i64 x7_1∧ab (bS.l0 kq l0 l0 (l0.length:Int) x7_1=some r)∧ab (kq≤k)∧ab (Below w.heap.size w w'))
 case atStart=>exact⟨(0),rs_,H',⟨Nat.le_refl _⟩,⟨ay⟩⟩
 case round=>
  clear H';obtain⟨x7_1,rfl,HA,HK1,HB⟩:=hrel
  cases gk with
  | zero=>exact absurd HA.out (by simp[bS.l0])
  | succ k1=>
   have H:=HA.out;clear HA;simp only[bS.l0]at H
   by_cases c2:x7_1<(l0.length:Int)
   case neg=>
    rw[if_neg c2]at H;have c2b0:=decide_eq_false c2;clear c2;obtain rfl:=Option.some.inj H;go_wp2;go_ret;exact⟨rr_,ay⟩
   rw[if_pos c2]at H;have c2b0:=decide_eq_true c2;clear c2
   by_cases c3:0≤x7_1
   case neg=>
    rw[if_neg c3]at H;exact absurd H (by simp)
   rw[if_pos c3]at H;have c3b0:=decide_eq_true c3;clear c3
   by_cases c4:x7_1<(l0.length:Int)
   case neg=>
    rw[if_neg c4]at H;exact absurd H (by simp)
   rw[if_pos c4]at H;have c4b0:=decide_eq_true c4;clear c4;obtain⟨j2,A5,H⟩:=ob_ H
   by_cases c6:j2=true
   case neg=>
    replace c6:=Bool.eq_false_iff.mpr c6;subst c6;rw[if_neg ff_]at H;obtain rfl:=Option.some.inj H;have g3:=t0_ (x7_1);have g4:=tl_ (x7_1) (l0.length);obtain⟨j0,g5,-,-,-,-,g6,g7,g8,g9⟩:=rp_ HB (dN HR0.out x7_1 (of_eq_true g3) (of_eq_true g4));cases g5;go_wp2_with (first|((with_reducible refine ax (N:=4) rfl ?_);refine cm 4 #[.string (⟨#[]⟩:ByteArray),.int .i64 0,.int .i64 0,.string (⟨#[]⟩:ByteArray)] 45 (fun g1 hg j3 hbox hb=>?_);have g0:=a0_ (hbox);have g2:=a0_ (gw_ hg:w.heap.size≤g1);replace HB:=a0_ (aa ay hb);have j1:=g2;clear hb hbox hg;obtain⟨_,_,_,_,_,_,_,_⟩:=cY g0.out)|((with_reducible refine gt_ 61 rfl ?_);refine gs_ 12 Tryz.func61 #[.agg #[.string ((ae l0 x7_1).f0),.int .i64 ((ae l0 x7_1).f1),.int .i64 ((ae l0 x7_1).f2),.string ((ae l0 x7_1).f3)]] ?_;(with_reducible refine(cf.c k1 ((ae l0 x7_1).f0) ((ae l0 x7_1).f1) ((ae l0 x7_1).f2) ((ae l0 x7_1).f3) false _ A5.out).mono ?_);rintro e j4 ⟨rfl,hb⟩;refine⟨_,rfl,?_⟩;replace g0:=a0_ (b_ (g:=g1) (o:=.cells #[.string ((ae l0 x7_1).f0),.int .i64 ((ae l0 x7_1).f1),.int .i64 ((ae l0 x7_1).f2),.string ((ae l0 x7_1).f3)] 45 (0,0)) (fl g0.out) hb);replace HB:=a0_ (aa aD hb);clear hb));go_ret;exact⟨rr_,aD⟩
   subst c6;rw[if_pos rfl]at H;have H':=a0_ H;clear H;have g3:=t0_ (x7_1);have g4:=tl_ (x7_1) (l0.length);obtain⟨j0,g5,-,-,-,-,g6,g7,g8,g9⟩:=rp_ HB (dN HR0.out x7_1 (of_eq_true g3) (of_eq_true g4));cases g5;go_wp2_with (first|((with_reducible refine ax (N:=4) rfl ?_);refine cm 4 #[.string (⟨#[]⟩:ByteArray),.int .i64 0,.int .i64 0,.string (⟨#[]⟩:ByteArray)] 45 (fun g1 hg w7 hbox hb=>?_);have g0:=a0_ (hbox);have g2:=a0_ (gw_ hg:w.heap.size≤g1);replace HB:=a0_ (aa ay hb);have j1:=g2;clear hb hbox hg;obtain⟨_,_,_,_,_,_,_,_⟩:=cY g0.out)|((with_reducible refine gt_ 61 rfl ?_);refine gs_ 12 Tryz.func61 #[.agg #[.string ((ae l0 x7_1).f0),.int .i64 ((ae l0 x7_1).f1),.int .i64 ((ae l0 x7_1).f2),.string ((ae l0 x7_1).f3)]] ?_;(with_reducible refine(cf.c k1 ((ae l0 x7_1).f0) ((ae l0 x7_1).f1) ((ae l0 x7_1).f2) ((ae l0 x7_1).f3) true _ A5.out).mono ?_);rintro e w9 ⟨rfl,hb⟩;refine⟨_,rfl,?_⟩;replace g0:=a0_ (b_ (g:=g1) (o:=.cells #[.string ((ae l0 x7_1).f0),.int .i64 ((ae l0 x7_1).f1),.int .i64 ((ae l0 x7_1).f2),.string ((ae l0 x7_1).f3)] 45 (0,0)) (fl g0.out) hb);replace HB:=a0_ (aa aD hb);clear hb));go_roundg k1
   case measure=>have:=HK1.out;omega
   case rel=>exact⟨(wrap64 (x7_1+1)),rs_,H',jl_ HK1,⟨aD⟩⟩
mutual
def aq.l0: Nat→List (S83)→List (S45)→List (S83)→Int→Int→Option ((List (S45))×Bool)
 | 0,_,_,_,_,_=>none
 | k+1,x0,x4,g1,g3,g0=>if g0<g3 then(if 0≤g0 then(if g0<(g1.length:Int)then(if(((ao g1 g0).f3).length:Int)=0 then(some (([]:List (S45)),false))else(aq.l1 k x0 x4 g1 g3 g0 ((ao g1 g0).f3) (((ao g1 g0).f3).length:Int) 0 ((ao g1 g0).f0) ((ao g1 g0).f1) ((ao g1 g0).f2) ((ao g1 g0).f3)))else(none))else(none))else((av.f k x4).bind fun g2=>(if g2.2=true then(if(x4.length:Int)>60 then(aq.j3 k x4 true)else(aq.j3 k x4 ((g2.1.length:Int) !=(x0.length:Int))))else(aq.j3 k x4 true)))
def aq.l1: Nat→List (S83)→List (S45)→List (S83)→Int→Int→List ByteArray→Int→Int→ByteArray→Int→Int→List ByteArray→Option ((List (S45))×Bool)
 | 0,_,_,_,_,_,_,_,_,_,_,_,_=>none
 | k+1,x0,x4,g6,g7,g8,g4,g9,g3,g0,g1,g2,g5=>if g3<g9 then(if 0≤g3 then(if g3<(g4.length:Int)then((cf.f k g0 g1 g2 (bn ByteArray.empty g4 g3)).bind fun j0=>(if j0=true then(if(x4.length:Int)>0 then(if 0≤(wrap64 ((x4.length:Int)-1))then(if(wrap64 ((x4.length:Int)-1))<(x4.length:Int)then((dl.f k ((ae x4 (wrap64 ((x4.length:Int)-1))).f0) ((ae x4 (wrap64 ((x4.length:Int)-1))).f1) ((ae x4 (wrap64 ((x4.length:Int)-1))).f2) ((ae x4 (wrap64 ((x4.length:Int)-1))).f3) g0 g1 g2 (bn ByteArray.empty g4 g3)).bind fun j1=>(aq.j2 k x0 x4 g6 g7 g8 g4 g9 g3 (decide (j1≥0)) g0 g1 g2 g5 g0 g1 g2 (bn ByteArray.empty g4 g3)))else(none))else(none))else(aq.j2 k x0 x4 g6 g7 g8 g4 g9 g3 false g0 g1 g2 g5 g0 g1 g2 (bn ByteArray.empty g4 g3)))else(some (([]:List (S45)),false))))else(none))else(none))else(aq.l0 k x0 x4 g6 g7 (wrap64 (g8+1)))
def aq.j2: Nat→List (S83)→List (S45)→List (S83)→Int→Int→List ByteArray→Int→Int→Bool→ByteArray→Int→Int→List ByteArray→ByteArray→Int→Int→ByteArray→Option ((List (S45))×Bool)
 | 0,_,_,_,_,_,_,_,_,_,_,_,_,_,_,_,_,_=>none
 | k+1,x0,x4,g8,g9,j0,j1,j3,j4,j5,g0,g1,g2,g3,g4,g5,g6,g7=>if j5=true then(some (([]:List (S45)),false))else(if x4.length<2932031007402 then(aq.l1 k x0 (x4 ++ [(⟨g4,g5,g6,g7⟩:S45)]) g8 g9 j0 j1 j3 (wrap64 (j4+1)) g0 g1 g2 g3)else(none))
def aq.j3: Nat→List (S45)→Bool→Option ((List (S45))×Bool)
 | 0,_,_=>none
 | k+1,x4,g0=>if g0=true then(some (([]:List (S45)),false))else(some (x4,true))
end
def aq.f(k:Nat)(l0:List (S83)): Option ((List (S45))×Bool):=aq.l0 k l0 ([]:List (S45)) l0 (l0.length:Int) 0
def aq.T14: Bool×List (List Nat×List Nat):=(true,[([],[]),([0],[0]),([1],[1]),([2],[2]),([2],[2]),([4,2],[2,4]),([3,5,2],[2,3,5]),([6,2],[2,6]),([2],[2]),([7,8,2,2],[2,7,8]),([9,2],[2,9]),([2,10],[2,10])])
def aq.B14: List Nat:=[0,1,3,7,7,23,63,127,7,511,1023,2047]
theorem aq.tab14: eA .any (fc Tryz.f13 14)=aq.T14:=by kernel_rfl
theorem aq.bits14: du aq.T14.2 aq.B14=true:=by kernel_rfl
theorem aq.c(k:Nat)(A0:Option Addr)(c0:Nat)(l0:List (S83))(r1:List (S45))(r2:Bool)(w:World)(hr0:Kd.C k83 w A0 l0.length l0)(hc0:l0.length≤c0)(h:aq.f k l0=some (r1,r2)):
 Calls Tryz.prog 13 #[.slice A0 l0.length c0] w fun e w'=> ∃ v0_:Value,e = .returned (.tuple #[v0_,.bool r2])∧Kd.R k45 45 w' w.heap.size (fun _=>True) v0_ r1∧Below w.heap.size w w':=by
 have hu83:=Tryz.underlying83;have hu45:=Tryz.underlying45;have HR0:=a0_ hr0;have HC0:=a0_ hc0;clear hr0 hc0;have HB:=a0_ (Below.refl w.heap.size w);have H:=h;clear h;unfold aq.f at H;have H':=a0_ H;clear H;go_enter Tryz.func13,Tryz.ntmps13;go_wp2;go_loopg [4,15] k (fun kq v4 J4 w'=> ∃ (x4_1:List (S45)) (g0:Int),J4 = .int .i64 g0∧ab (aq.l0 kq l0 x4_1 l0 (l0.length:Int) g0=some (r1,r2))∧ab (kq≤k)∧ab (Kd.R k45 45 w' w.heap.size (fun _=>True) v4 x4_1)∧ab (Below w.heap.size w w'))
 case atStart=>exact⟨(([]:List (S45))),(0),rs_,H',⟨Nat.le_refl _⟩,⟨by first|exact Kd.R_nil _ _ _ _ _|exact Kd.N_nil _ _ _ _ _|exact Kd.V_nil _ _ _ _ _|exact Kd.Q_nil _ _ _ _ _|exact Kd.S_nil _ _ _ _ _⟩,⟨ay⟩⟩
 case round=>
  clear H';obtain⟨x4_1,g0,rfl,HA,HK1,HO_4,HB⟩:=hrel
  cases gk with
  | zero=>exact absurd HA.out (by simp[aq.l0])
  | succ k1=>
   have H:=HA.out;clear HA;simp only[aq.l0]at H
   by_cases c2:g0<(l0.length:Int)
   case neg=>
    rw[if_neg c2]at H;have c2b0:=decide_eq_false c2;clear c2;obtain⟨⟨z6,z7⟩,J5,H⟩:=ob_ H;have d4:=a0_ H;clear H;obtain⟨z8,z9,G6⟩:=Kd.R_slice HO_4.out;subst G6;go_upto_region 20 with(first|((with_reducible refine gt_ 63 rfl ?_);refine gs_ 63 Tryz.func63 #[.slice z8 x4_1.length z9] ?_;(with_reducible refine(av.c k1 _ _ x4_1 z6 z7 _ ?side1 ?side2 J5.out).mono ?_);(case side1=>exact kD_ (Kd.R_reads' HO_4.out).2.2);(case side2=>exact(Kd.R_reads' HO_4.out).2.1);rintro e D4 ⟨D0,rfl,ho0,hb⟩;refine⟨_,rfl,?_⟩;replace HO_4:=a0_ (Kd.R_below (kR_ HO_4.out) hb);have f7:=a0_ (Kd.S_lower ho0 (aj ay));replace HB:=a0_ (aa ay hb);clear hb;(try clear ho0)))
    (try simp only[Act.put,List.setIfInBounds_toArray,List.set_cons_zero,List.set_cons_succ])
    go_cut [79] (fun J6 wc=> ∃ (kq:Nat) (j4:Bool),J6 = .bool j4∧ab (aq.j3 kq x4_1 j4=some (r1,r2))∧ab (kq≤k1)∧ab (Kd.R k45 45 wc w.heap.size (fun _=>True) (.slice z8 x4_1.length z9) x4_1)∧ab (Below w.heap.size w wc))
    case first=>
     have H:=d4.out;clear d4
     by_cases d8:z7=true
     case neg=>
      replace d8:=Bool.eq_false_iff.mpr d8;subst d8;rw[if_neg ff_]at H;have H':=a0_ H;clear H;go_wp2;go_meet
      case rel=>exact⟨_,(true),rs_,H',jl_ HK1,⟨kR_ HO_4.out⟩,⟨ay⟩⟩
     subst d8;rw[if_pos rfl]at H
     by_cases y8:(x4_1.length:Int)>60
     case pos=>
      rw[if_pos y8]at H;have j5:=decide_eq_true y8;have f8:decide (60<x4_1.length)=true:=decide_eq_true (by omega);clear y8
      (first|rw[j5]|(simp only[bu,bI];rw[j5])|skip)
      have H':=a0_ H;clear H;go_wp2;go_meet
      case rel=>exact⟨_,(true),rs_,H',jl_ HK1,⟨kR_ HO_4.out⟩,⟨ay⟩⟩
     rw[if_neg y8]at H;have j5:=decide_eq_false y8;have f8:decide (60<x4_1.length)=false:=decide_eq_false (by omega);clear y8
     (first|rw[j5]|(simp only[bu,bI];rw[j5])|skip)
     have H':=a0_ H;clear H;obtain⟨D1,D2,G7⟩:=Kd.S_slice f7.out;subst G7;go_wp2;go_meet
     case rel=>exact⟨_,(((z6.length:Int) !=(l0.length:Int))),rs_,H',jl_ HK1,⟨kR_ HO_4.out⟩,⟨ay⟩⟩
    case rest=>
     clear d4
     try clear c1
     try clear c2
     try clear c2b0
     obtain⟨kq,j4,rfl,HA,HJ40,HO_4,HB⟩:=hcut
     cases kq with
     | zero=>exact absurd HA.out (by simp[aq.j3])
     | succ kj40=>
      have H:=HA.out;clear HA;simp only[aq.j3]at H
      by_cases d9:j4=true
      case pos=>
       subst d9;rw[if_pos rfl]at H;simp only[Option.some.injEq,Prod.mk.injEq]at H;obtain⟨rfl,rfl⟩:=H;go_wp2;go_ret2;exact⟨_,rr_,by first|exact Kd.R_nil _ _ _ _ _|exact Kd.N_nil _ _ _ _ _|exact Kd.V_nil _ _ _ _ _|exact Kd.Q_nil _ _ _ _ _|exact Kd.S_nil _ _ _ _ _,ay⟩
      replace d9:=Bool.eq_false_iff.mpr d9;subst d9;rw[if_neg ff_]at H;simp only[Option.some.injEq,Prod.mk.injEq]at H;obtain⟨rfl,rfl⟩:=H;go_wp2;go_ret2;exact⟨_,rr_,kR_ HO_4.out,ay⟩
   rw[if_pos c2]at H;have c2b0:=decide_eq_true c2;clear c2
   by_cases c3:0≤g0
   case neg=>
    rw[if_neg c3]at H;exact absurd H (by simp)
   rw[if_pos c3]at H;have c3b0:=decide_eq_true c3;clear c3
   by_cases c4:g0<(l0.length:Int)
   case neg=>
    rw[if_neg c4]at H;exact absurd H (by simp)
   rw[if_pos c4]at H;have c4b0:=decide_eq_true c4;clear c4
   by_cases c5:(((ao l0 g0).f3).length:Int)=0
   case pos=>
    rw[if_pos c5]at H;have c5b0:=beq_iff_eq.mpr c5;have c5b1:=bne_eq_false_iff_eq.mpr c5;clear c5;simp only[Option.some.injEq,Prod.mk.injEq]at H;obtain⟨rfl,rfl⟩:=H;have y4:=t0_ (g0);have y5:=tl_ (g0) (l0.length);obtain⟨f9,y6,g6,d5,-,-,-,-,j8,j9,y0,y1,y2,z5⟩:=ri_ HB (gT HR0.out g0 (of_eq_true y4) (of_eq_true y5));cases d5;go_wp2_with (first|((with_reducible refine ax (N:=6) rfl ?_);(try(refine bP (by rfl) ?_;dsimp only));refine cm 6 #[.string (⟨#[]⟩:ByteArray),.int .i64 0,.int .i64 0,.slice none 0 0] 83 (fun g5 hg w6 hbox hb=>?_);replace HO_4:=a0_ (Kd.R_below (kR_ HO_4.out) hb);have g1:=a0_ (hbox);have b4:=a0_ (gw_ hg:w.heap.size≤g5);replace HB:=a0_ (aa ay hb);have T0:=b4;clear hb hbox hg;obtain⟨z7_0,z7_1,z7_2,z7_3,q7_0,q7_1,q7_2,q7_3⟩:=cY g1.out));go_ret2;exact⟨_,rr_,by first|exact Kd.R_nil _ _ _ _ _|exact Kd.N_nil _ _ _ _ _|exact Kd.V_nil _ _ _ _ _|exact Kd.Q_nil _ _ _ _ _|exact Kd.S_nil _ _ _ _ _,aD⟩
   rw[if_neg c5]at H;have c5b0:=beq_eq_false_iff_ne.mpr c5;have c5b1:=bne_iff_ne.mpr c5
   have c5b2:¬ (((ao l0 g0).f3)=[]):=fun h_=>c5 (by rw[h_];rfl)
   have H':=a0_ H;clear H;have y4:=t0_ (g0);have y5:=tl_ (g0) (l0.length);obtain⟨f9,y6,g6,d5,-,-,-,-,j8,j9,y0,y1,y2,z5⟩:=ri_ HB (gT HR0.out g0 (of_eq_true y4) (of_eq_true y5));cases d5;go_wp2_with (first|((with_reducible refine ax (N:=6) rfl ?_);(try(refine bP (by rfl) ?_;dsimp only));refine cm 6 #[.string (⟨#[]⟩:ByteArray),.int .i64 0,.int .i64 0,.slice none 0 0] 83 (fun g5 hg w8 hbox hb=>?_);replace HO_4:=a0_ (Kd.R_below (kR_ HO_4.out) hb);have g1:=a0_ (hbox);have b4:=a0_ (gw_ hg:w.heap.size≤g5);replace HB:=a0_ (aa ay hb);have T0:=b4;clear hb hbox hg;obtain⟨z9_0,z9_1,z9_2,z9_3,q9_0,q9_1,q9_2,q9_3⟩:=cY g1.out));go_loopg [4,26] k1 (fun kq v4 J7 w'=> ∃ (x4_2:List (S45)) (g2:Int),J7 = .int .i64 g2∧ab (aq.l1 kq l0 x4_2 l0 (l0.length:Int) g0 ((ao l0 g0).f3) (((ao l0 g0).f3).length:Int) g2 ((ao l0 g0).f0) ((ao l0 g0).f1) ((ao l0 g0).f2) ((ao l0 g0).f3)=some (r1,r2))∧ab (kq≤k1)∧ab (Kd.R k45 45 w' w.heap.size (fun _=>True) v4 x4_2)∧ab (w'.heap[g5]? = some (.cells #[.string ((ao l0 g0).f0),.int .i64 ((ao l0 g0).f1),.int .i64 ((ao l0 g0).f2),(.slice y6 ((ao l0 g0).f3).length g6)] 83 (0,0)))∧ab (Below w.heap.size w w'))
   case atStart=>exact⟨(x4_1),(0),rs_,H',⟨Nat.le_refl _⟩,⟨by(with_reducible repeat(first|apply Kd.R_alloc|apply Kd.R_drewN|apply Kd.R_drew));exact Kd.R_mono (fX g5 (Kd.R_types HO_4.out g1.out (by decide)) (fun _ hk=>hk.2) (.string ((ao l0 g0).f0)) (.int .i64 ((ao l0 g0).f1)) (.int .i64 ((ao l0 g0).f2)) (.slice y6 ((ao l0 g0).f3).length g6)) (fun _ hk=>trivial)⟩,⟨fl g1.out⟩,⟨aD⟩⟩
   case round=>
    clear H'
    try clear c1
    try clear c2
    try clear c2b0
    try clear c3
    try clear c3b0
    try clear c4
    try clear c4b0
    try clear c5
    try clear c5b0
    try clear c5b1
    try clear c5b2
    try clear z9_0 z9_1 z9_2 z9_3
    try clear q9_0 q9_1 q9_2 q9_3
    try clear j8
    try clear j9
    try clear y0
    try clear y1
    try clear y4
    try clear y5
    obtain⟨x4_2,g2,rfl,HA,HK2,HO_4,g1,HB⟩:=hrel
    cases gk with
    | zero=>exact absurd HA.out (by simp[aq.l1])
    | succ k2=>
     have H:=HA.out;clear HA;simp only[aq.l1]at H
     by_cases y7:g2<(((ao l0 g0).f3).length:Int)
     case neg=>
      rw[if_neg y7]at H;have z0:=decide_eq_false y7;clear y7;have H':=a0_ H;clear H;go_wp2;go_roundg k2
      case measure=>have:=HK1.out;have:=HK2.out;omega
      case rel=>exact⟨(x4_2),(wrap64 (g0+1)),rs_,H',jm_ HK1 HK2,⟨kR_ HO_4.out⟩,⟨aD⟩⟩
     rw[if_pos y7]at H;have z0:=decide_eq_true y7;clear y7
     by_cases b9:0≤g2
     case neg=>
      rw[if_neg b9]at H;exact absurd H (by simp)
     rw[if_pos b9]at H;have T1:=decide_eq_true b9;clear b9
     by_cases d0:g2<(((ao l0 g0).f3).length:Int)
     case neg=>
      rw[if_neg d0]at H;exact absurd H (by simp)
     rw[if_pos d0]at H;have T2:=decide_eq_true d0;clear d0;obtain⟨G8,G4,H⟩:=ob_ H
     by_cases d3:G8=true
     case neg=>
      replace d3:=Bool.eq_false_iff.mpr d3;subst d3;rw[if_neg ff_]at H;simp only[Option.some.injEq,Prod.mk.injEq]at H;obtain⟨rfl,rfl⟩:=H;have b5:=t0_ (g2);have b6:=tl_ (g2) (((ao l0 g0).f3).length);obtain⟨j0,d6,g7⟩:=Kd.at_string y2.out g2 (of_eq_true b5) (of_eq_true b6);cases d6;replace g7:=(HB.out.cell (World.block_lt_of_cell? w _ g7)).trans g7;obtain⟨_,_,_,_,_,_,_,_⟩:=cY g1.out;go_wp2_with (first|((with_reducible refine ax (N:=9) rfl ?_);(try(refine bP (by rfl) ?_;dsimp only));refine cm 9 #[.string (⟨#[]⟩:ByteArray),.int .i64 0,.int .i64 0,.string (⟨#[]⟩:ByteArray)] 45 (fun g4 hg D5 hbox hb=>?_);replace HO_4:=a0_ (Kd.R_below (Kd.R_elderB (kR_ HO_4.out) g4 (Nat.le_of_eq hg.symm)) hb);have g3:=a0_ (hbox);have b7:=a0_ (gw_ hg (aj aD):w.heap.size≤g4);replace HB:=a0_ (aa aD hb);have g8:=a0_ ((by rw[hg];exact Nat.ne_of_lt (cB (g:=g5) (o:=.cells #[.string ((ao l0 g0).f0),.int .i64 ((ao l0 g0).f1),.int .i64 ((ao l0 g0).f2),.slice (some j0) ((ao l0 g0).f3).length g6] 83 (0,0)) (kB_ g1.out)):g5≠g4));have j1:=a0_ ((by rw[hg];exact Nat.ne_of_gt (cB (g:=g5) (o:=.cells #[.string ((ao l0 g0).f0),.int .i64 ((ao l0 g0).f1),.int .i64 ((ao l0 g0).f2),.slice (some j0) ((ao l0 g0).f3).length g6] 83 (0,0)) (kB_ g1.out)):g4≠g5));replace g1:=a0_ (bq g1 hb);have T3:=b7;clear hb hbox hg;have Q1:=j1.out;have Q2:=g8.out;obtain⟨_,_,_,_,_,_,_,_⟩:=cY g3.out)|((with_reducible refine gt_ 61 rfl ?_);refine gs_ 39 Tryz.func61 #[.agg #[.string ((ao l0 g0).f0),.int .i64 ((ao l0 g0).f1),.int .i64 ((ao l0 g0).f2),.string (bn ByteArray.empty ((ao l0 g0).f3) g2)]] ?_;(with_reducible refine(cf.c k2 ((ao l0 g0).f0) ((ao l0 g0).f1) ((ao l0 g0).f2) (bn ByteArray.empty ((ao l0 g0).f3) g2) false _ G4.out).mono ?_);rintro e D6 ⟨rfl,hb⟩;refine⟨_,rfl,?_⟩;replace HO_4:=a0_ (Kd.R_below (kR_ (Kd.R_mono (fX g4 (Kd.R_mono HO_4.out (fun k_ hk=>(⟨hk,hk.2⟩:_∧k_≠g4))) (fun _ hk=>hk.2) (.string ((ao l0 g0).f0)) (.int .i64 ((ao l0 g0).f1)) (.int .i64 ((ao l0 g0).f2)) (.string (bn ByteArray.empty ((ao l0 g0).f3) g2))) (fun _ h_=>h_.1))) hb);replace g1:=a0_ (b_ (g:=g5) (o:=.cells #[.string ((ao l0 g0).f0),.int .i64 ((ao l0 g0).f1),.int .i64 ((ao l0 g0).f2),.slice (some j0) ((ao l0 g0).f3).length g6] 83 (0,0)) (ir g8.out g1.out) hb);replace g3:=a0_ (b_ (g:=g4) (o:=.cells #[.string ((ao l0 g0).f0),.int .i64 ((ao l0 g0).f1),.int .i64 ((ao l0 g0).f2),.string (bn ByteArray.empty ((ao l0 g0).f3) g2)] 45 (0,0)) (fl g3.out) hb);replace HB:=a0_ (aa aD hb);clear hb));go_ret2;exact⟨_,rr_,by first|exact Kd.R_nil _ _ _ _ _|exact Kd.N_nil _ _ _ _ _|exact Kd.V_nil _ _ _ _ _|exact Kd.Q_nil _ _ _ _ _|exact Kd.S_nil _ _ _ _ _,aD⟩
     subst d3;rw[if_pos rfl]at H;have d7:=a0_ H;clear H;have b5:=t0_ (g2);have b6:=tl_ (g2) (((ao l0 g0).f3).length);obtain⟨j0,d6,g7⟩:=Kd.at_string y2.out g2 (of_eq_true b5) (of_eq_true b6);cases d6;replace g7:=(HB.out.cell (World.block_lt_of_cell? w _ g7)).trans g7;obtain⟨T4,T5,T6,T7,T8,T9,V0,V1⟩:=cY g1.out;go_upto_region 14 with(first|((with_reducible refine ax (N:=9) rfl ?_);(try(refine bP (by rfl) ?_;dsimp only));refine cm 9 #[.string (⟨#[]⟩:ByteArray),.int .i64 0,.int .i64 0,.string (⟨#[]⟩:ByteArray)] 45 (fun g4 hg D7 hbox hb=>?_);replace HO_4:=a0_ (Kd.R_below (Kd.R_elderB (kR_ HO_4.out) g4 (Nat.le_of_eq hg.symm)) hb);have g3:=a0_ (hbox);have b7:=a0_ (gw_ hg (aj aD):w.heap.size≤g4);replace HB:=a0_ (aa aD hb);have g8:=a0_ ((by rw[hg];exact Nat.ne_of_lt (cB (g:=g5) (o:=.cells #[.string ((ao l0 g0).f0),.int .i64 ((ao l0 g0).f1),.int .i64 ((ao l0 g0).f2),.slice (some j0) ((ao l0 g0).f3).length g6] 83 (0,0)) (kB_ g1.out)):g5≠g4));have j1:=a0_ ((by rw[hg];exact Nat.ne_of_gt (cB (g:=g5) (o:=.cells #[.string ((ao l0 g0).f0),.int .i64 ((ao l0 g0).f1),.int .i64 ((ao l0 g0).f2),.slice (some j0) ((ao l0 g0).f3).length g6] 83 (0,0)) (kB_ g1.out)):g4≠g5));replace g1:=a0_ (bq g1 hb);have T3:=b7;clear hb hbox hg;have Q3:=j1.out;have Q4:=g8.out;obtain⟨V2,V3,V4,V5,V6,V7,V8,V9⟩:=cY g3.out)|((with_reducible refine gt_ 61 rfl ?_);refine gs_ 39 Tryz.func61 #[.agg #[.string ((ao l0 g0).f0),.int .i64 ((ao l0 g0).f1),.int .i64 ((ao l0 g0).f2),.string (bn ByteArray.empty ((ao l0 g0).f3) g2)]] ?_;(with_reducible refine(cf.c k2 ((ao l0 g0).f0) ((ao l0 g0).f1) ((ao l0 g0).f2) (bn ByteArray.empty ((ao l0 g0).f3) g2) true _ G4.out).mono ?_);rintro e G5 ⟨rfl,hb⟩;refine⟨_,rfl,?_⟩;replace HO_4:=a0_ (Kd.R_below (kR_ (Kd.R_mono (fX g4 (Kd.R_mono HO_4.out (fun k_ hk=>(⟨hk,hk.2⟩:_∧k_≠g4))) (fun _ hk=>hk.2) (.string ((ao l0 g0).f0)) (.int .i64 ((ao l0 g0).f1)) (.int .i64 ((ao l0 g0).f2)) (.string (bn ByteArray.empty ((ao l0 g0).f3) g2))) (fun _ h_=>h_.1))) hb);replace g1:=a0_ (b_ (g:=g5) (o:=.cells #[.string ((ao l0 g0).f0),.int .i64 ((ao l0 g0).f1),.int .i64 ((ao l0 g0).f2),.slice (some j0) ((ao l0 g0).f3).length g6] 83 (0,0)) (ir g8.out g1.out) hb);replace g3:=a0_ (b_ (g:=g4) (o:=.cells #[.string ((ao l0 g0).f0),.int .i64 ((ao l0 g0).f1),.int .i64 ((ao l0 g0).f2),.string (bn ByteArray.empty ((ao l0 g0).f3) g2)] 45 (0,0)) (fl g3.out) hb);replace HB:=a0_ (aa aD hb);clear hb;obtain⟨f4,f5,G9⟩:=Kd.R_slice HO_4.out;subst G9))
     (try simp only[Act.put,List.setIfInBounds_toArray,List.set_cons_zero,List.set_cons_succ])
     go_cut [54] (fun J8 wc=> ∃ (kq:Nat) (j6:Bool),J8 = .bool j6∧ab (aq.j2 kq l0 x4_2 l0 (l0.length:Int) g0 ((ao l0 g0).f3) (((ao l0 g0).f3).length:Int) g2 j6 ((ao l0 g0).f0) ((ao l0 g0).f1) ((ao l0 g0).f2) ((ao l0 g0).f3) ((ao l0 g0).f0) ((ao l0 g0).f1) ((ao l0 g0).f2) (bn ByteArray.empty ((ao l0 g0).f3) g2)=some (r1,r2))∧ab (kq≤k2)∧ab (Kd.R k45 45 wc w.heap.size (fun k_=>k_≠g4) (.slice f4 x4_2.length f5) x4_2)∧ab (wc.heap[g5]? = some (.cells #[.string ((ao l0 g0).f0),.int .i64 ((ao l0 g0).f1),.int .i64 ((ao l0 g0).f2),(.slice (some j0) ((ao l0 g0).f3).length g6)] 83 (0,0)))∧ab (wc.heap[g4]? = some (.cells #[.string ((ao l0 g0).f0),.int .i64 ((ao l0 g0).f1),.int .i64 ((ao l0 g0).f2),.string (bn ByteArray.empty ((ao l0 g0).f3) g2)] 45 (0,0)))∧ab (Below w.heap.size w wc))
     case first=>
      have H:=d7.out;clear d7
      by_cases y9:(x4_2.length:Int)>0
      case neg=>
       rw[if_neg y9]at H;have j7:=decide_eq_false y9;have G0:decide (0<x4_2.length)=false:=decide_eq_false (by omega);clear y9
       (first|rw[j7]|(simp only[bu,bI];rw[j7])|skip)
       have H':=a0_ H;clear H
       try go_wp2
       replace HO_4:=a0_ (Kd.R_drew HO_4.out);replace g1:=a0_ (az g1.out);replace g3:=a0_ (az g3.out);replace HB:=a0_ (bp HB.out)
       refine fN 12 [] ht_ (fun hHeld=>?_);refine ck aq.tab14 aq.bits14 (fun HT_ HW_=>?_)
       generalize G5.drew=D8 at HO_4 g1 g3 HB hHeld ⊢
       refine p_ 0 43 ?_
       refine p_ 1 44 ?_
       refine p_ 2 45 ?_
       refine s_ 3 46 ?_
       refine s_ 4 47 ?_
       refine s_ 5 48 ?_
       refine s_ 6 49 ?_
       refine s_ 7 50 ?_
       refine s_ 8 51 ?_
       refine s_ 9 52 ?_
       refine s_ 10 53 ?_
       refine p_ 11 54 ?_
       refine dZ (db HT_.out (by kernel_rfl)) ?_
       try go_wp2
       go_meet
       case rel=>exact⟨_,(false),rs_,H',⟨by have:=HK1.out;have:=HK2.out;first|omega|exact Nat.le_refl _⟩,⟨kR_ (Kd.R_mono HO_4.out (fun _ hk=>hk.2))⟩,⟨bz_⟩,⟨bz_⟩,⟨aD⟩⟩
      rw[if_pos y9]at H;have j7:=decide_eq_true y9;have G0:decide (0<x4_2.length)=true:=decide_eq_true (by omega);clear y9
      (first|rw[j7]|(simp only[bu,bI];rw[j7])|skip)
      obtain⟨g9,y3⟩:∃ j_:Int,(wrap64 ((x4_2.length:Int)-1))=j_:=⟨_,rfl⟩
      (first|rw[y3]at H|simp only[y3]at H)
      have J9:(IntKind.i64.wrap ((x4_2.length:Int)-1))=g9:=(bu _).trans y3
      by_cases z1:0≤(g9)
      case neg=>
       rw[if_neg z1]at H;exact absurd H (by simp)
      rw[if_pos z1]at H;have Q5:=decide_eq_true z1;clear z1
      by_cases z2:(g9)<(x4_2.length:Int)
      case neg=>
       rw[if_neg z2]at H;exact absurd H (by simp)
      rw[if_pos z2]at H;have Q6:=decide_eq_true z2;clear z2;obtain⟨f6,Q0,H⟩:=ob_ H;have H':=a0_ H;clear H
      try go_wp2
      replace HO_4:=a0_ (Kd.R_drew HO_4.out);replace g1:=a0_ (az g1.out);replace g3:=a0_ (az g3.out);replace HB:=a0_ (bp HB.out);have J0:=t0_ ((g9));have J1:=tl_ ((g9)) (x4_2.length);obtain⟨Q7,J2,b0,b1,b2,b3⟩:=dN (Kd.R_reads' HO_4.out).2.2 (g9) (of_eq_true J0) (of_eq_true J1);cases J2
      refine fN 12 [] (cb_ g3.out (e4_ b0 b1 b2 b3)) (fun hHeld=>?_);refine ck aq.tab14 aq.bits14 (fun HT_ HW_=>?_)
      generalize G5.drew=D9 at HO_4 g1 g3 HB b0 b1 b2 b3 hHeld ⊢
      refine p_ 0 43 ?_
      refine p_ 1 44 ?_
      refine p_ 2 45 ?_
      refine p_ 3 46 ?_
      refine p_ 4 47 ?_
      refine p_ 5 48 ?_
      refine p_ 6 49 ?_
      refine t_ 7 50 ?_
      refine t_ 8 51 ?_
      refine dg 9 (some 52) (fun K hK=>?_)
      refine dm Tryz.func62 (by kernel_rfl) rfl #[.agg #[.string ((ae x4_2 (g9)).f0),.int .i64 ((ae x4_2 (g9)).f1),.int .i64 ((ae x4_2 (g9)).f2),.string ((ae x4_2 (g9)).f3)],.agg #[.string ((ao l0 g0).f0),.int .i64 ((ao l0 g0).f1),.int .i64 ((ao l0 g0).f2),.string (bn ByteArray.empty ((ao l0 g0).f3) g2)]] (by rfl) rfl rfl (by(try simp only[List.map_toArray,List.map_cons,List.map_nil]);first|done|(simp only[y3];rfl)|rfl|(simp only[List.length_drop,List.length_take];rfl)) ?_
      with_reducible refine(dl.c k2 ((ae x4_2 (g9)).f0) ((ae x4_2 (g9)).f1) ((ae x4_2 (g9)).f2) ((ae x4_2 (g9)).f3) ((ao l0 g0).f0) ((ao l0 g0).f1) ((ao l0 g0).f2) (bn ByteArray.empty ((ao l0 g0).f3) g2) f6 _ Q0.out).mono ?_
      rintro e Y0 ⟨rfl,hb⟩;have HS4_:=(hb.cell (World.block_lt_of_cell? _ _ (hHeld.2.2.2.2.1))).trans (hHeld.2.2.2.2.1);have HS5_:=(hb.cell (World.block_lt_of_cell? _ _ (hHeld.2.2.2.2.2.1))).trans (hHeld.2.2.2.2.2.1);have HS6_:=(hb.cell (World.block_lt_of_cell? _ _ (hHeld.2.2.2.2.2.2.1))).trans (hHeld.2.2.2.2.2.2.1);have HS7_:=(hb.cell (World.block_lt_of_cell? _ _ (hHeld.2.2.2.2.2.2.2))).trans (hHeld.2.2.2.2.2.2.2);refine⟨_,rfl,?_⟩;replace HO_4:=a0_ (Kd.R_below (kR_ HO_4.out) hb);replace g1:=a0_ (bq g1 hb);replace g3:=a0_ (bq g3 hb);replace HB:=a0_ (aa aD hb)
      (try clear hb)
      (try clear hb2)
      (try clear hk)
      (try clear hi)
      refine hK.out _ _ (cb_ g3.out (c1_ HS4_ (c1_ HS5_ (c1_ HS6_ (e1_ HS7_))))).out (fun hHeld=>?_);clear hK K
      refine cU ?_
      refine p_ 10 53 ?_
      refine p_ 11 54 ?_
      refine dZ (db HT_.out (by kernel_rfl)) ?_
      try go_wp2
      go_meet
      case rel=>exact⟨_,(decide (f6≥0)),rs_,H',⟨by have:=HK1.out;have:=HK2.out;first|omega|exact Nat.le_refl _⟩,⟨kR_ (Kd.R_mono HO_4.out (fun _ hk=>hk.2))⟩,⟨bz_⟩,⟨bz_⟩,⟨aD⟩⟩
     case rest=>
      clear d7
      try clear c1
      try clear c2
      try clear c2b0
      try clear p2
      try clear c3
      try clear c3b0
      try clear p3
      try clear q3
      try clear hx3
      try clear c4
      try clear c4b0
      try clear c5
      try clear c5b0
      try clear c5b1
      try clear c5b2
      try clear y7
      try clear z0
      try clear b9
      try clear T1
      try clear d0
      try clear T2
      try clear d3
      try clear T4 T5 T6 T7
      try clear V2 V3 V4 V5
      try clear z7_0 z7_1 z7_2 z7_3
      try clear z9_0 z9_1 z9_2 z9_3
      try clear T8 T9 V0 V1
      try clear V6 V7 V8 V9
      try clear q7_0 q7_1 q7_2 q7_3
      try clear q9_0 q9_1 q9_2 q9_3
      try clear j8
      try clear j9
      try clear y0
      try clear y1
      try clear g7
      try clear p2
      try clear p3
      try clear y4
      try clear b5
      try clear q3
      try clear y5
      try clear b6
      obtain⟨kq,j6,rfl,HA,HJ14,HO_4,g1,g3,HB⟩:=hcut
      cases kq with
      | zero=>exact absurd HA.out (by simp[aq.j2])
      | succ kj14=>
       have H:=HA.out;clear HA;simp only[aq.j2]at H
       by_cases z3:j6=true
       case pos=>
        subst z3;rw[if_pos rfl]at H;simp only[Option.some.injEq,Prod.mk.injEq]at H;obtain⟨rfl,rfl⟩:=H;go_wp2;go_ret2;exact⟨_,rr_,by first|exact Kd.R_nil _ _ _ _ _|exact Kd.N_nil _ _ _ _ _|exact Kd.V_nil _ _ _ _ _|exact Kd.Q_nil _ _ _ _ _|exact Kd.S_nil _ _ _ _ _,aD⟩
       replace z3:=Bool.eq_false_iff.mpr z3;subst z3;rw[if_neg ff_]at H
       by_cases z4:x4_2.length<2932031007402
       case neg=>
        rw[if_neg z4]at H;exact absurd H (by simp)
       rw[if_pos z4]at H;have G1:=a0_ z4;clear z4;obtain⟨J3,b8⟩:∃ y_:List (S45),y_=(x4_2 ++ [(⟨((ao l0 g0).f0),((ao l0 g0).f1),((ao l0 g0).f2),(bn ByteArray.empty ((ao l0 g0).f3) g2)⟩:S45)]):=⟨_,rfl⟩;rw[← b8]at H;have G2:=a0_ b8;clear b8;have H':=a0_ H;clear H;have Q8:=j1.out;have Q9:=g8.out;obtain⟨_,_,_,_,_,_,_,_⟩:=cY g3.out;go_wp2_with (first|((with_reducible refine bz (b:=.append) (xs:=#[.tmp 55,.tmp 57]) rfl ?_);(try(refine bP (by rfl) ?_;dsimp only));at_builtin;refine Kd.R_append k45 (w0:=w) w.heap.size rfl (.tmp 55) (.tmp 57) 27 45 (.agg #[(.string ⟨#[]⟩),(.int .i64 0),(.int .i64 0),(.string ⟨#[]⟩)]) 48 rfl Tryz.underlying27 dz rfl (by decide) (by omega) (.slice f4 x4_2.length f5) x4_2 (⟨((ao l0 g0).f0),((ao l0 g0).f1),((ao l0 g0).f2),(bn ByteArray.empty ((ao l0 g0).f3) g2)⟩:S45) [.string ((ao l0 g0).f0),.int .i64 ((ao l0 g0).f1),.int .i64 ((ao l0 g0).f2),.string (bn ByteArray.empty ((ao l0 g0).f3) g2)] (fun k_=>k_≠g4) (fun _=>False) rfl rfl ?aP (fun _ hk=>hk.elim) ?aF ?aO ?aB ?aS ?aL ?_;(case aP=>exact jC _ _ _ (⟨((ao l0 g0).f0),((ao l0 g0).f1),((ao l0 g0).f2),(bn ByteArray.empty ((ao l0 g0).f3) g2)⟩:S45));(case aB=>exact aD);(case aF=>exact(fun k_ hk=>Kd.freshB (g:=g4) (o:=.cells #[.string ((ao l0 g0).f0),.int .i64 ((ao l0 g0).f1),.int .i64 ((ao l0 g0).f2),.string (bn ByteArray.empty ((ao l0 g0).f3) g2)] 45 (0,0)) (kB_ g3.out) k_ hk));(case aO=>exact(kR_ HO_4.out));(case aS=>exact(aj aD));(case aL=>have:=G1.out;omega);intro D3 Y1 ho hb hg hat;rw[← G2.out]at ho;replace g1:=a0_ (cp (g:=g5) (o:=.cells #[.string ((ao l0 g0).f0),.int .i64 ((ao l0 g0).f1),.int .i64 ((ao l0 g0).f2),.slice (some j0) ((ao l0 g0).f3).length g6] 83 (0,0)) (kB_ g1.out) hg (Kd.R_ne HO_4.out g1.out (by decide)));replace g3:=a0_ (cp (g:=g4) (o:=.cells #[.string ((ao l0 g0).f0),.int .i64 ((ao l0 g0).f1),.int .i64 ((ao l0 g0).f2),.string (bn ByteArray.empty ((ao l0 g0).f3) g2)] 45 (0,0)) (kB_ g3.out) hg (Kd.R_away HO_4.out (fun _ hk=>hk)));replace HB:=a0_ (hb);have G3:=a0_ (ho);clear HO_4;clear ho hb hg hat));go_roundg kj14
       case measure=>have:=HK1.out;have:=HK2.out;have:=HJ14.out;omega
       case rel=>exact⟨(J3),(wrap64 (g2+1)),rs_,H',jn_ HK1 HK2 HJ14,⟨kR_ (Kd.R_mono G3.out (fun _ hk=>trivial))⟩,⟨bz_⟩,⟨aD⟩⟩
end Go.Proofs.YtiegkjimpclmaaaGreatDoor.P
namespace Go.Proofs.YtiegkjimpclmaaaGreatDoor.P
attribute [local go_sem] cG cD c_ cZ ci ch cE cH
attribute [local go_sem high] rj
mutual
def aY.l0: Nat→List (S45)→Int→ByteArray→Int→Int→ByteArray→Option ((List (S45)))
 | 0,_,_,_,_,_,_=>none
 | k+1,x0,x5,g0,g1,g2,g3=>if x5<(x0.length:Int)then(if 0≤x5 then((dl.f k ((ae x0 x5).f0) ((ae x0 x5).f1) ((ae x0 x5).f2) ((ae x0 x5).f3) g0 g1 g2 g3).bind fun g4=>(aY.j1 k x0 x5 (decide (g4<0)) g0 g1 g2 g3))else(none))else(aY.j1 k x0 x5 false g0 g1 g2 g3)
def aY.j1: Nat→List (S45)→Int→Bool→ByteArray→Int→Int→ByteArray→Option ((List (S45)))
 | 0,_,_,_,_,_,_,_=>none
 | k+1,x0,x5,g4,g0,g1,g2,g3=>if g4=true then(aY.l0 k x0 (wrap64 (x5+1)) g0 g1 g2 g3)else(if x5<(x0.length:Int)then(if 0≤x5 then(aY.j2 k x0 x5 ((((ae x0 x5).f0).toList)==g0.toList&&(((ae x0 x5).f1)==g1&&(((ae x0 x5).f2)==g2&&((((ae x0 x5).f3).toList)==g3.toList)))) g0 g1 g2 g3)else(none))else(aY.j2 k x0 x5 false g0 g1 g2 g3))
def aY.j2: Nat→List (S45)→Int→Bool→ByteArray→Int→Int→ByteArray→Option ((List (S45)))
 | 0,_,_,_,_,_,_,_=>none
 | k+1,x0,x5,g8,g0,g1,g2,g3=>if g8=true then(some x0)else(if 0≤x5 then(if x5≤(x0.length:Int)then((some (x0.take (x5:Int).toNat:List (S45))).bind fun g4=>(if([]:List (S45)).length+g4.length<2932031007402 then((some (([]:List (S45))++g4:List (S45))).bind fun g5=>(if g5.length<2932031007402 then((some (g5 ++ [(⟨g0,g1,g2,g3⟩:S45)]:List (S45))).bind fun g6=>((some (x0.drop (x5:Int).toNat:List (S45))).bind fun g7=>(if g6.length+g7.length<2932031007402 then(some (g6++g7))else(none))))else(none)))else(none)))else(none))else(none))
end
def aY.f(k:Nat)(l0:List (S45))(a1_0:ByteArray)(a1_1:Int)(a1_2:Int)(a1_3:ByteArray): Option ((List (S45))):=aY.l0 k l0 0 a1_0 a1_1 a1_2 a1_3
def aY.T2: Bool×List (List Nat×List Nat):=(true,[([],[]),([],[]),([1],[1]),([0,2],[0,2]),([3],[3]),([4],[4]),([4],[4]),([5,6,4],[4,5,6]),([7,4],[4,7]),([4],[4]),([8,9,4,4],[4,8,9]),([10,4],[4,10]),([4,11],[4,11])])
def aY.B2: List Nat:=[0,0,2,7,15,31,31,127,255,31,1023,2047,4095]
theorem aY.tab2: eA .any (fc Tryz.f72 2)=aY.T2:=by kernel_rfl
theorem aY.bits2: du aY.T2.2 aY.B2=true:=by kernel_rfl
def aY.T4: Bool×List (List Nat×List Nat):=(true,[([],[]),([],[]),([1],[1]),([0,2],[0,2]),([3],[3]),([4],[4]),([4],[4]),([5,6,4],[4,5,6]),([7,4],[4,7]),([4],[4]),([8,9,4],[4,8,9]),([4,10],[4,10])])
def aY.B4: List Nat:=[0,0,2,7,15,31,31,127,255,31,1023,2047]
theorem aY.tab4: eA .any (fc Tryz.f72 4)=aY.T4:=by kernel_rfl
theorem aY.bits4: du aY.T4.2 aY.B4=true:=by kernel_rfl
theorem aY.c(k:Nat)(P0_:Nat→Prop)(u9000_:Value)(l0:List (S45))(a1_0:ByteArray)(a1_1:Int)(a1_2:Int)(a1_3:ByteArray)(r:List (S45))(w0 w:World)(hB:Below w0.heap.size w0 w)(ho0:Kd.R k45 45 w w0.heap.size P0_ u9000_ l0)(h:aY.f k l0 a1_0 a1_1 a1_2 a1_3=some r):
 Calls Tryz.prog 72 #[u9000_,.agg #[.string a1_0,.int .i64 a1_1,.int .i64 a1_2,.string a1_3]] w fun e w'=> ∃ v0_:Value,e = .returned (v0_)∧Kd.R k45 45 w' w0.heap.size (fun k_=>(P0_ k_∨w.heap.size≤k_)) v0_ r∧Below w0.heap.size w0 w'∧cW w w' (fun k_=>P0_ k_):=by
 have hu45:=Tryz.underlying45;have HO0:=a0_ (show Kd.R k45 45 w w0.heap.size (fun k_=>(P0_ k_∨w.heap.size≤k_)) u9000_ l0 from Kd.R_mono ho0 (fun k_ hk=>(.inl hk)));have HK:=a0_ (cW.refl w (fun k_=>P0_ k_));have HW0:=a0_ hB.size;have HB:=a0_ hB;clear hB;have H:=h;clear h;unfold aY.f at H;have H':=a0_ H;clear H;go_enter Tryz.func72,Tryz.ntmps72;go_wp2_with (first|((with_reducible refine ax (N:=3) rfl ?_);refine cm 3 #[.string a1_0,.int .i64 a1_1,.int .i64 a1_2,.string a1_3] 45 (fun g1 hg w3 hbox hb=>?_);replace HO0:=a0_ (Kd.R_below (Kd.R_elderB (kR_ HO0.out) g1 (Nat.le_of_eq hg.symm)) hb);have g0:=a0_ (hbox);have b8:=a0_ ((by rw[hg];exact(by first|exact HK.out.1|exact(show cW w _ (fun k_=>P0_ k_)from kp_).1):w.heap.size≤g1));replace HK:=a0_ (cW.below (S:=(fun k_=>P0_ k_)) kp_ hb);have V2:=a0_ ((by rw[hg];exact(aj ay):w0.heap.size≤g1));replace HB:=a0_ (aa ay hb);clear hb hbox hg));go_loopg [5] k (fun kq v5 w'=> ∃ (x5_1:Int),v5 = .int .i64 x5_1∧ab (aY.l0 kq l0 x5_1 a1_0 a1_1 a1_2 a1_3=some r)∧ab (kq≤k)∧ab (Kd.R k45 45 w' w0.heap.size (fun k_=>(P0_ k_∨w.heap.size≤k_)∧k_≠g1) u9000_ l0)∧ab (w'.heap[g1]? = some (.cells #[.string a1_0,.int .i64 a1_1,.int .i64 a1_2,.string a1_3] 45 (0,0)))∧ab (cW w w' (fun k_=>P0_ k_))∧ab (Below w0.heap.size w0 w'))
 case atStart=>exact⟨(0),rs_,H',⟨Nat.le_refl _⟩,⟨kR_ HO0.out⟩,⟨bz_⟩,⟨kp_⟩,⟨aD⟩⟩
 case round=>
  clear H';obtain⟨x5_1,rfl,HA,HK1,HO_0,g0,HK,HB⟩:=hrel
  cases gk with
  | zero=>exact absurd HA.out (by simp[aY.l0])
  | succ k1=>
   have H:=HA.out;clear HA;simp only[aY.l0]at H;have HC4:=a0_ H;clear H;go_upto_region 2 with(fail);go_cut [19] (fun T7 wc=> ∃ (kq:Nat) (j6:Bool),T7 = .bool j6∧ab (aY.j1 kq l0 x5_1 j6 a1_0 a1_1 a1_2 a1_3=some r)∧ab (kq≤k1)∧ab (Kd.R k45 45 wc w0.heap.size (fun k_=>(P0_ k_∨w.heap.size≤k_)∧k_≠g1) u9000_ l0)∧ab (wc.heap[g1]? = some (.cells #[.string a1_0,.int .i64 a1_1,.int .i64 a1_2,.string a1_3] 45 (0,0)))∧ab (cW w wc (fun k_=>P0_ k_))∧ab (Below w0.heap.size w0 wc))
   case first=>
    have H:=HC4.out;clear HC4
    by_cases c5:x5_1<(l0.length:Int)
    case neg=>
     rw[if_neg c5]at H;have c5b0:=decide_eq_false c5;clear c5
     (first|rw[c5b0]|(simp only[bu,bI];rw[c5b0])|skip)
     have H':=a0_ H;clear H
     try go_wp2
     replace HO_0:=a0_ (Kd.R_drew HO_0.out);replace g0:=a0_ (az g0.out);replace HK:=a0_ (cW.drew HK.out);replace HB:=a0_ (bp HB.out);obtain⟨G4,G5,d7⟩:=Kd.R_slice HO_0.out
     (first|subst d7|(injection d7 with f1_ f2_ f3_;have f4_:=f1_.symm;have f5_:=f3_.symm;clear f1_ f2_ f3_;subst f4_;subst f5_))
     refine fN 13 [] ht_ (fun hHeld=>?_);refine ck aY.tab2 aY.bits2 (fun HT_ HW_=>?_)
     generalize wr.drew=J1 at HO_0 g0 HK HB hHeld ⊢
     refine p_ 0 7 ?_
     refine p_ 1 8 ?_
     refine p_ 2 9 ?_
     refine p_ 3 10 ?_
     refine p_ 4 11 ?_
     refine s_ 5 12 ?_
     refine s_ 6 13 ?_
     refine s_ 7 14 ?_
     refine s_ 8 15 ?_
     refine s_ 9 16 ?_
     refine s_ 10 17 ?_
     refine s_ 11 18 ?_
     refine p_ 12 19 ?_
     refine dZ (db HT_.out (by kernel_rfl)) ?_
     try go_wp2
     go_meet
     case rel=>exact⟨_,(false),rs_,H',jl_ HK1,⟨kR_ HO_0.out⟩,⟨bz_⟩,⟨kp_⟩,⟨aD⟩⟩
    rw[if_pos c5]at H;have c5b0:=decide_eq_true c5;clear c5
    (first|rw[c5b0]|(simp only[bu,bI];rw[c5b0])|skip)
    by_cases c6:0≤x5_1
    case neg=>
     rw[if_neg c6]at H;exact absurd H (by simp)
    rw[if_pos c6]at H;have c6b0:=decide_eq_true c6;clear c6;obtain⟨d8,A7,H⟩:=ob_ H;have H':=a0_ H;clear H
    try go_wp2
    replace HO_0:=a0_ (Kd.R_drew HO_0.out);replace g0:=a0_ (az g0.out);replace HK:=a0_ (cW.drew HK.out);replace HB:=a0_ (bp HB.out);obtain⟨Ao9,co9,eo9⟩:=Kd.R_slice HO_0.out
    (first|subst eo9|(injection eo9 with f1_ f2_ f3_;have f4_:=f1_.symm;have f5_:=f3_.symm;clear f1_ f2_ f3_;subst f4_;subst f5_))
    have d9:=t0_ (x5_1);have z0:=tl_ (x5_1) (l0.length);obtain⟨V3,f8,j0,j3,j4,j5⟩:=dN (Kd.R_reads' HO_0.out).2.2 x5_1 (of_eq_true d9) (of_eq_true z0);cases f8
    refine fN 13 [] (cb_ g0.out (e4_ j0 j3 j4 j5)) (fun hHeld=>?_);refine ck aY.tab2 aY.bits2 (fun HT_ HW_=>?_)
    generalize wr.drew=w8 at HO_0 g0 HK HB j0 j3 j4 j5 hHeld ⊢
    refine p_ 0 7 ?_
    refine p_ 1 8 ?_
    refine p_ 2 9 ?_
    refine p_ 3 10 ?_
    refine p_ 4 11 ?_
    refine p_ 5 12 ?_
    refine p_ 6 13 ?_
    refine p_ 7 14 ?_
    refine t_ 8 15 ?_
    refine t_ 9 16 ?_
    refine dg 10 (some 17) (fun K hK=>?_)
    refine dm Tryz.func62 (by kernel_rfl) rfl #[.agg #[.string ((ae l0 x5_1).f0),.int .i64 ((ae l0 x5_1).f1),.int .i64 ((ae l0 x5_1).f2),.string ((ae l0 x5_1).f3)],.agg #[.string a1_0,.int .i64 a1_1,.int .i64 a1_2,.string a1_3]] (by rfl) rfl rfl cS ?_
    with_reducible refine(dl.c k1 ((ae l0 x5_1).f0) ((ae l0 x5_1).f1) ((ae l0 x5_1).f2) ((ae l0 x5_1).f3) a1_0 a1_1 a1_2 a1_3 d8 _ A7.out).mono ?_
    rintro e J2 ⟨rfl,hb⟩;have HS4_:=(hb.cell (World.block_lt_of_cell? _ _ (hHeld.2.2.2.2.1))).trans (hHeld.2.2.2.2.1);have HS5_:=(hb.cell (World.block_lt_of_cell? _ _ (hHeld.2.2.2.2.2.1))).trans (hHeld.2.2.2.2.2.1);have HS6_:=(hb.cell (World.block_lt_of_cell? _ _ (hHeld.2.2.2.2.2.2.1))).trans (hHeld.2.2.2.2.2.2.1);have HS7_:=(hb.cell (World.block_lt_of_cell? _ _ (hHeld.2.2.2.2.2.2.2))).trans (hHeld.2.2.2.2.2.2.2);refine⟨_,rfl,?_⟩;replace HO_0:=a0_ (Kd.R_below (kR_ HO_0.out) hb);replace g0:=a0_ (bq g0 hb);replace HK:=a0_ (cW.below (S:=(fun k_=>P0_ k_)) kp_ hb);replace HB:=a0_ (aa aD hb)
    (try clear hb)
    (try clear hb2)
    (try clear hk)
    (try clear hi)
    refine hK.out _ _ (cb_ g0.out (c1_ HS4_ (c1_ HS5_ (c1_ HS6_ (e1_ HS7_))))).out (fun hHeld=>?_);clear hK K
    refine cU ?_
    refine p_ 11 18 ?_
    refine p_ 12 19 ?_
    refine dZ (db HT_.out (by kernel_rfl)) ?_
    try go_wp2
    go_meet
    case rel=>exact⟨_,(decide (d8<0)),rs_,H',jl_ HK1,⟨kR_ HO_0.out⟩,⟨bz_⟩,⟨kp_⟩,⟨aD⟩⟩
   case rest=>
    clear HC4
    try clear p2
    try clear p2
    obtain⟨kq,j6,rfl,HA,HJ3,HO_0,g0,HK,HB⟩:=hcut
    cases kq with
    | zero=>exact absurd HA.out (by simp[aY.j1])
    | succ kj3=>
     have H:=HA.out;clear HA;simp only[aY.j1]at H
     by_cases b1:j6=true
     case pos=>
      subst b1;rw[if_pos rfl]at H;have H':=a0_ H;clear H;go_wp2;go_roundg kj3
      case measure=>have:=HK1.out;have:=HJ3.out;omega
      case rel=>exact⟨(wrap64 (x5_1+1)),rs_,H',jm_ HK1 HJ3,⟨kR_ HO_0.out⟩,⟨bz_⟩,⟨kp_⟩,⟨aD⟩⟩
     replace b1:=Bool.eq_false_iff.mpr b1;subst b1;rw[if_neg ff_]at H;have b4:=a0_ H;clear H;go_upto_region 4 with(fail);go_cut [33] (fun T8 wc=> ∃ (kq:Nat) (g6:Bool),T8 = .bool g6∧ab (aY.j2 kq l0 x5_1 g6 a1_0 a1_1 a1_2 a1_3=some r)∧ab (kq≤kj3)∧ab (Kd.R k45 45 wc w0.heap.size (fun k_=>(P0_ k_∨w.heap.size≤k_)∧k_≠g1) u9000_ l0)∧ab (wc.heap[g1]? = some (.cells #[.string a1_0,.int .i64 a1_1,.int .i64 a1_2,.string a1_3] 45 (0,0)))∧ab (cW w wc (fun k_=>P0_ k_))∧ab (Below w0.heap.size w0 wc))
     case first=>
      have H:=b4.out;clear b4
      by_cases y0:x5_1<(l0.length:Int)
      case neg=>
       rw[if_neg y0]at H;have g7:=decide_eq_false y0;clear y0
       (first|rw[g7]|(simp only[bu,bI];rw[g7])|skip)
       have H':=a0_ H;clear H
       try go_wp2
       replace HO_0:=a0_ (Kd.R_drew HO_0.out);replace g0:=a0_ (az g0.out);replace HK:=a0_ (cW.drew HK.out);replace HB:=a0_ (bp HB.out);obtain⟨G6,G7,z1⟩:=Kd.R_slice HO_0.out
       (first|subst z1|(injection z1 with f1_ f2_ f3_;have f4_:=f1_.symm;have f5_:=f3_.symm;clear f1_ f2_ f3_;subst f4_;subst f5_))
       refine fN 12 [] ht_ (fun hHeld=>?_);refine ck aY.tab4 aY.bits4 (fun HT_ HW_=>?_)
       generalize wc.drew=J3 at HO_0 g0 HK HB hHeld ⊢
       refine p_ 0 22 ?_
       refine p_ 1 23 ?_
       refine p_ 2 24 ?_
       refine p_ 3 25 ?_
       refine p_ 4 26 ?_
       refine s_ 5 27 ?_
       refine s_ 6 28 ?_
       refine s_ 7 29 ?_
       refine s_ 8 30 ?_
       refine s_ 9 31 ?_
       refine s_ 10 32 ?_
       refine p_ 11 33 ?_
       refine dZ (db HT_.out (by kernel_rfl)) ?_
       try go_wp2
       go_meet
       case rel=>exact⟨_,(false),rs_,H',⟨by have:=HK1.out;have:=HJ3.out;first|omega|exact Nat.le_refl _⟩,⟨kR_ HO_0.out⟩,⟨bz_⟩,⟨kp_⟩,⟨aD⟩⟩
      rw[if_pos y0]at H;have g7:=decide_eq_true y0;clear y0
      (first|rw[g7]|(simp only[bu,bI];rw[g7])|skip)
      by_cases b9:0≤x5_1
      case neg=>
       rw[if_neg b9]at H;exact absurd H (by simp)
      rw[if_pos b9]at H;have V4:=decide_eq_true b9;clear b9;have H':=a0_ H;clear H
      try go_wp2
      replace HO_0:=a0_ (Kd.R_drew HO_0.out);replace g0:=a0_ (az g0.out);replace HK:=a0_ (cW.drew HK.out);replace HB:=a0_ (bp HB.out);obtain⟨G8,G9,z2⟩:=Kd.R_slice HO_0.out
      (first|subst z2|(injection z2 with f1_ f2_ f3_;have f4_:=f1_.symm;have f5_:=f3_.symm;clear f1_ f2_ f3_;subst f4_;subst f5_))
      have f9:=t0_ (x5_1);have T0:=tl_ (x5_1) (l0.length);obtain⟨V5,T1,y1,y2,y3,y4⟩:=dN (Kd.R_reads' HO_0.out).2.2 x5_1 (of_eq_true f9) (of_eq_true T0);cases T1
      refine fN 12 [] (cb_ g0.out (e4_ y1 y2 y3 y4)) (fun hHeld=>?_);refine ck aY.tab4 aY.bits4 (fun HT_ HW_=>?_)
      generalize wc.drew=J4 at HO_0 g0 HK HB y1 y2 y3 y4 hHeld ⊢
      refine p_ 0 22 ?_
      refine p_ 1 23 ?_
      refine p_ 2 24 ?_
      refine p_ 3 25 ?_
      refine p_ 4 26 ?_
      refine p_ 5 27 ?_
      refine p_ 6 28 ?_
      refine p_ 7 29 ?_
      refine t_ 8 30 ?_
      refine t_ 9 31 ?_
      refine p_ 10 32 ?_
      refine p_ 11 33 ?_
      refine dZ (db HT_.out (by kernel_rfl)) ?_
      try go_wp2
      go_meet
      case rel=>exact⟨_,(((((ae l0 x5_1).f0).toList)==a1_0.toList&&(((ae l0 x5_1).f1)==a1_1&&(((ae l0 x5_1).f2)==a1_2&&((((ae l0 x5_1).f3).toList)==a1_3.toList))))),rs_,H',⟨by have:=HK1.out;have:=HJ3.out;first|omega|exact Nat.le_refl _⟩,⟨kR_ HO_0.out⟩,⟨bz_⟩,⟨kp_⟩,⟨aD⟩⟩
     case rest=>
      clear b4
      try clear p2
      try clear p4
      try clear q4
      try clear hx4
      try clear c5
      try clear c5b0
      try clear c6
      try clear c6b0
      try clear c7
      try clear b1
      try clear j0
      try clear j3
      try clear j4
      try clear j5
      try clear p2
      try clear p4
      try clear d9
      try clear q4
      try clear z0
      obtain⟨kq,g6,rfl,HA,HJ13,HO_0,g0,HK,HB⟩:=hcut
      cases kq with
      | zero=>exact absurd HA.out (by simp[aY.j2])
      | succ kj13=>
       have H:=HA.out;clear HA;simp only[aY.j2]at H
       by_cases d0:g6=true
       case pos=>
        subst d0;rw[if_pos rfl]at H;obtain rfl:=Option.some.inj H;go_wp2;go_ret;exact⟨_,rr_,by(with_reducible repeat(first|apply Kd.R_alloc|apply Kd.R_drewN|apply Kd.R_drew));exact Kd.R_mono HO_0.out (fun _ hk=>hk.1),aD,by repeat(first|(with_reducible first|exact HK.out|apply cW.alloc|apply cW.drewN|apply cW.drew|refine cW.setCell ?_ (.inr b8.out) _)|exact HK.out)⟩
       replace d0:=Bool.eq_false_iff.mpr d0;subst d0;rw[if_neg ff_]at H
       by_cases b2:0≤x5_1
       case neg=>
        rw[if_neg b2]at H;exact absurd H (by simp)
       rw[if_pos b2]at H;have V6:=eq_true b2;have V7:=decide_eq_true b2;clear b2
       by_cases b3:x5_1≤(l0.length:Int)
       case neg=>
        rw[if_neg b3]at H;exact absurd H (by simp)
       rw[if_pos b3]at H;have V8:=eq_true b3;have V9:=decide_eq_true b3;clear b3;obtain⟨g4,y5⟩:∃ y_:List (S45),y_=(l0.take (x5_1:Int).toNat):=⟨_,rfl⟩;replace H:=by_ y5 H;have g8:=a0_ y5;clear y5
       by_cases d3:([]:List (S45)).length+g4.length<2932031007402
       case neg=>
        rw[if_neg d3]at H;exact absurd H (by simp)
       rw[if_pos d3]at H;have z5:=a0_ d3;clear d3;obtain⟨b5,y6⟩:∃ y_:List (S45),y_=(([]:List (S45))++g4):=⟨_,rfl⟩;replace H:=by_ y6 H;have z6:=a0_ y6;clear y6
       by_cases d4:b5.length<2932031007402
       case neg=>
        rw[if_neg d4]at H;exact absurd H (by simp)
       rw[if_pos d4]at H;have z7:=a0_ d4;clear d4;obtain⟨b6,y7⟩:∃ y_:List (S45),y_=(b5 ++ [(⟨a1_0,a1_1,a1_2,a1_3⟩:S45)]):=⟨_,rfl⟩;replace H:=by_ y7 H;have z8:=a0_ y7;clear y7;have G0:=eq_true (dr:0≤x5_1);have G1:=eq_true (dr:x5_1≤(l0.length:Int));obtain⟨g5,y8⟩:∃ y_:List (S45),y_=(l0.drop (x5_1:Int).toNat):=⟨_,rfl⟩;replace H:=by_ y8 H;have y9:=a0_ y8;clear y8
       by_cases d5:b6.length+g5.length<2932031007402
       case neg=>
        rw[if_neg d5]at H;exact absurd H (by simp)
       rw[if_pos d5]at H;have z9:=a0_ d5;clear d5;obtain⟨T2,g9⟩:∃ y_:List (S45),y_=(b6++g5):=⟨_,rfl⟩
       replace H:(some T2)=some r:=by first|(rw[g9];with_reducible exact H)|(have H2_:=(Option.bind_some _ _).symm.trans H;rw[g9];with_reducible exact H2_)|(have H2_:=(Option.bind_some _ _).symm.trans H;with_reducible exact H2_)|with_reducible exact H|(rw[g9];exact H)|exact H
       have f4:=a0_ g9;clear g9;obtain rfl:=Option.some.inj H;obtain⟨g2,g3,T3⟩:=Kd.R_slice HO_0.out;subst T3;have z3:(x5_1:Int)≤((l0.length:Int):Int):=dr;obtain⟨i029,hi029,_,hsz29,_⟩:=info_parts dz;have hroom29:l0.length≤g3:=(Kd.R_reads' HO_0.out).2.1;have hC29:Kd.C k45 _ g2 l0.length l0:=(Kd.R_reads' HO_0.out).2.2;have hcut29:=gI (P:=Tryz.prog) 27 45 .i64 Tryz.underlying27 hi029 g2 l0.length g3 x5_1 (dr) z3 hroom29;have hr29:=Kd.C_take (m:=(x5_1:Int).toNat) hC29 (by omega);have b7:g4.length=(x5_1:Int).toNat:=(by rw[g8.out,List.length_take];omega);rw[← g8.out]at hr29;rw[← b7]at hcut29;have j7:=a0_ hr29;have G2:=a0_ (show g4.length≤g3 from by omega);clear hr29 hC29 hroom29 hi029 hsz29;have KY29:=a0_ b7;clear b7;have KL29:=a0_ (show(x5_1:Int).toNat≤l0.length from by omega);replace z3:=eq_true z3;go_wp2_with (first|((with_reducible refine bz (b:=.append) (xs:=#[.tmp 35,.tmp 38]) rfl ?_);at_builtin;refine Kd.R_append_rows k45 (w0:=w0) w0.heap.size rfl (.tmp 35) (.tmp 38) 27 45 (.agg #[(.string ⟨#[]⟩),(.int .i64 0),(.int .i64 0),(.string ⟨#[]⟩)]) 48 rfl Tryz.underlying27 dz rfl (by decide) (by omega) (.slice none 0 0) ([]:List (S45)) g4 _ _ _ (fun k_=>(P0_ k_∨w.heap.size≤k_)∧nw_ k_ g2 l0.length g3∧k_≠g1) (fun _=>False) rfl rfl ?aO ?aR (fun _ _ h=>h) (fun _ h=>h.elim) ?aF ?aB ?aS ?aL ?_;(case aR=>exact kD_ j7.out);(case aB=>exact aD);(case aF=>exact(fun k_ hk=>⟨(.inr (Nat.le_trans (by first|exact HK.out.1|exact(show cW w _ (fun k_=>P0_ k_)from kp_).1) hk)),Kd.fresh' (Kd.R_lt (kR_ HO_0.out)) k_ hk,Kd.freshB (g:=g1) (o:=.cells #[.string a1_0,.int .i64 a1_1,.int .i64 a1_2,.string a1_3] 45 (0,0)) (kB_ g0.out) k_ hk⟩));(case aO=>exact((Kd.R_nil _ _ _ _ (fun k_=>(P0_ k_∨w.heap.size≤k_)∧nw_ k_ g2 l0.length g3∧k_≠g1))));(case aS=>exact(aj aD));(case aL=>have:=z5.out;omega);intro T4 T9 ho hb hg hat;rw[← z6.out]at ho;replace g0:=a0_ (cp (g:=g1) (o:=.cells #[.string a1_0,.int .i64 a1_1,.int .i64 a1_2,.string a1_3] 45 (0,0)) (kB_ g0.out) hg (by simp[Value.ownBlock]));replace HB:=a0_ (hb);replace HK:=a0_ (cW.of_grown (S:=(fun k_=>P0_ k_)) hg kp_ (fun k_ e_=>by simp[Value.ownBlock]at e_));replace j7:=a0_ ((show Kd.C k45 T9 g2 g4.length g4 from by rw[g8.out];exact Kd.C_take (m:=(x5_1:Int).toNat) ((Kd.R_reads' (Kd.R_after (Kd.R_apart_nil (kR_ HO_0.out)) hg hat)).2.2) KL29.out));replace HO_0:=a0_ (Kd.R_after (Kd.R_apart_nil (kR_ HO_0.out)) hg hat);have j8:=a0_ (ho);clear ho hb hg hat;obtain⟨_,_,_,_,_,_,_,_⟩:=cY g0.out)|((with_reducible refine bz (b:=.append) (xs:=#[.tmp 40,.tmp 42]) rfl ?_);at_builtin;refine Kd.R_append k45 (w0:=w0) w0.heap.size rfl (.tmp 40) (.tmp 42) 27 45 (.agg #[(.string ⟨#[]⟩),(.int .i64 0),(.int .i64 0),(.string ⟨#[]⟩)]) 48 rfl Tryz.underlying27 dz rfl (by decide) (by omega) T4 b5 (⟨a1_0,a1_1,a1_2,a1_3⟩:S45) [.string a1_0,.int .i64 a1_1,.int .i64 a1_2,.string a1_3] (fun k_=>(P0_ k_∨w.heap.size≤k_)∧nw_ k_ g2 l0.length g3∧k_≠g1) (fun _=>False) rfl rfl ?aP (fun _ hk=>hk.elim) ?aF ?aO ?aB ?aS ?aL ?_;(case aP=>exact jC _ _ _ (⟨a1_0,a1_1,a1_2,a1_3⟩:S45));(case aB=>exact aD);(case aF=>exact(fun k_ hk=>⟨(.inr (Nat.le_trans (by first|exact HK.out.1|exact(show cW w _ (fun k_=>P0_ k_)from kp_).1) hk)),Kd.fresh' (Kd.R_lt (kR_ HO_0.out)) k_ hk,Kd.freshB (g:=g1) (o:=.cells #[.string a1_0,.int .i64 a1_1,.int .i64 a1_2,.string a1_3] 45 (0,0)) (kB_ g0.out) k_ hk⟩));(case aO=>exact(kR_ j8.out));(case aS=>exact(aj aD));(case aL=>have:=z7.out;omega);intro T5 V0 ho hb hg hat;rw[← z8.out]at ho;replace g0:=a0_ (cp (g:=g1) (o:=.cells #[.string a1_0,.int .i64 a1_1,.int .i64 a1_2,.string a1_3] 45 (0,0)) (kB_ g0.out) hg (Kd.R_away j8.out (fun _ hk=>hk.2.2)));replace HB:=a0_ (hb);replace HK:=a0_ (cW.of_grown (S:=(fun k_=>P0_ k_)) hg kp_ (fun k_ e_=>(j8.out.1 k_ e_).1));replace j7:=a0_ ((show Kd.C k45 V0 g2 g4.length g4 from by rw[g8.out];exact Kd.C_take (m:=(x5_1:Int).toNat) ((Kd.R_reads' (Kd.R_after (ok:=(fun k_=>(P0_ k_∨w.heap.size≤k_)∧k_≠g1)) (kR_ HO_0.out) hg hat)).2.2) KL29.out));replace HO_0:=a0_ (Kd.R_after (ok:=(fun k_=>(P0_ k_∨w.heap.size≤k_)∧k_≠g1)) (kR_ HO_0.out) hg hat);have j9:=a0_ (ho);clear j8;clear ho hb hg hat;have z4:(x5_1:Int)≤((l0.length:Int):Int):=dr;obtain⟨i034,hi034,_,hsz34,_⟩:=info_parts dz;have hroom34:l0.length≤g3:=(Kd.R_reads' HO_0.out).2.1;have hC34:Kd.C k45 _ g2 l0.length l0:=(Kd.R_reads' HO_0.out).2.2;have T6:(0:Int)≤(x5_1:Int):=dr;have hcut34:=pu (P:=Tryz.prog) 27 45 .i64 Tryz.underlying27 hi034 4 hsz34 g2 l0.length g3 x5_1 T6 z4;have hr34:=Kd.C_drop (m:=(x5_1:Int).toNat) (c:=g3) hC34 (by omega) hroom34;obtain⟨f6,hA34⟩:∃ A1,A1=(if g3=(x5_1:Int).toNat then g2 else(g2:Option Addr).map (·.add ((x5_1:Int).toNat*4))):=⟨_,rfl⟩;obtain⟨V1,hc34⟩:∃ c1,c1=g3-(x5_1:Int).toNat:=⟨_,rfl⟩;have b0:g5.length=l0.length-(x5_1:Int).toNat:=(by rw[y9.out,List.length_drop]<;>omega);rw[show(l0).drop (x5_1:Int).toNat=g5 from y9.out.symm]at hr34;replace hr34:Kd.C k45 _ f6 g5.length g5:=(by rw[hA34];exact hr34);rw[← b0,← hA34,← hc34]at hcut34;have d6:=a0_ hr34;have G3:=a0_ (show g5.length≤V1 from by rw[b0,hc34];exact Nat.sub_le_sub_right hroom34 _);clear hr34 hC34 hroom34 hi034 hsz34 hc34;have KY34:=a0_ b0;have KA34:=a0_ hA34;clear b0 hA34;have KL34:=a0_ (show(x5_1:Int).toNat≤l0.length from by omega);replace z4:=eq_true z4)|((with_reducible refine bz (b:=.append) (xs:=#[.tmp 44,.tmp 47]) rfl ?_);at_builtin;refine Kd.R_append_rows k45 (w0:=w0) w0.heap.size rfl (.tmp 44) (.tmp 47) 27 45 (.agg #[(.string ⟨#[]⟩),(.int .i64 0),(.int .i64 0),(.string ⟨#[]⟩)]) 48 rfl Tryz.underlying27 dz rfl (by decide) (by omega) T5 b6 g5 _ _ _ (fun k_=>(P0_ k_∨w.heap.size≤k_)∧nw_ k_ g2 l0.length g3∧k_≠g1) (fun _=>False) rfl rfl ?aO ?aR (fun _ _ h=>h) (fun _ h=>h.elim) ?aF ?aB ?aS ?aL ?_;(case aR=>exact kD_ d6.out);(case aB=>exact aD);(case aF=>exact(fun k_ hk=>⟨(.inr (Nat.le_trans (by first|exact HK.out.1|exact(show cW w _ (fun k_=>P0_ k_)from kp_).1) hk)),Kd.fresh' (Kd.R_lt (kR_ HO_0.out)) k_ hk,Kd.freshB (g:=g1) (o:=.cells #[.string a1_0,.int .i64 a1_1,.int .i64 a1_2,.string a1_3] 45 (0,0)) (kB_ g0.out) k_ hk⟩));(case aO=>exact(kR_ j9.out));(case aS=>exact(aj aD));(case aL=>have:=z9.out;omega);intro J0 f7 ho hb hg hat;rw[← f4.out]at ho;replace g0:=a0_ (cp (g:=g1) (o:=.cells #[.string a1_0,.int .i64 a1_1,.int .i64 a1_2,.string a1_3] 45 (0,0)) (kB_ g0.out) hg (Kd.R_away j9.out (fun _ hk=>hk.2.2)));replace HB:=a0_ (hb);replace HK:=a0_ (cW.of_grown (S:=(fun k_=>P0_ k_)) hg kp_ (fun k_ e_=>(j9.out.1 k_ e_).1));replace j7:=a0_ ((show Kd.C k45 f7 g2 g4.length g4 from by rw[g8.out];exact Kd.C_take (m:=(x5_1:Int).toNat) ((Kd.R_reads' (Kd.R_after (ok:=(fun k_=>(P0_ k_∨w.heap.size≤k_)∧k_≠g1)) (kR_ HO_0.out) hg hat)).2.2) KL29.out));replace d6:=a0_ ((show Kd.C k45 f7 f6 g5.length g5 from by rw[y9.out,KA34.out];exact Kd.C_drop (m:=(x5_1:Int).toNat) (c:=g3) ((Kd.R_reads' (Kd.R_after (ok:=(fun k_=>(P0_ k_∨w.heap.size≤k_)∧k_≠g1)) (kR_ HO_0.out) hg hat)).2.2) KL34.out ((Kd.R_reads' (Kd.R_after (ok:=(fun k_=>(P0_ k_∨w.heap.size≤k_)∧k_≠g1)) (kR_ HO_0.out) hg hat)).2.1)));replace HO_0:=a0_ (Kd.R_after (ok:=(fun k_=>(P0_ k_∨w.heap.size≤k_)∧k_≠g1)) (kR_ HO_0.out) hg hat);have f5:=a0_ (ho);clear j9;clear ho hb hg hat));go_ret;exact⟨_,rr_,by(with_reducible repeat(first|apply Kd.R_alloc|apply Kd.R_drewN|apply Kd.R_drew));exact Kd.R_mono f5.out (fun _ hk=>hk.1),aD,by repeat(first|(with_reducible first|exact HK.out|apply cW.alloc|apply cW.drewN|apply cW.drew|refine cW.setCell ?_ (.inr b8.out) _)|exact HK.out)⟩
end Go.Proofs.YtiegkjimpclmaaaGreatDoor.P
namespace Go.Proofs.YtiegkjimpclmaaaGreatDoor.P
def eq(b:UInt8): UInt8:=if 65≤b.toNat∧b.toNat≤90 then b+32 else b
def mx(s:ByteArray)(j:Nat): Int:=((eq (s.data.toList.getD j 0)).toNat:Int)
def ej(w:World)(g:Nat)(s:ByteArray)(kk:Nat): Prop:=
 ∃ cs e fz,w.heap[g]? = some (.cells cs e fz)∧s.size≤fz.1∧s.size≤cs.size ∧
  ∀ j,j<s.size→cs[j]? = some (.int .u8 (if j<kk then mx s j else((s.data.toList.getD j 0).toNat:Int)))
theorem ej.cell{w:World}{g:Nat}{s:ByteArray}{kk:Nat}(h:ej w g s kk)(j:Nat)(hj:j<s.size): w.cell? ⟨g,j,none⟩=some (.int .u8 (if j<kk then mx s j else((s.data.toList.getD j 0).toNat:Int))):=by
 obtain⟨cs,e,fz,h1,h2,h3,h4⟩:=h;simp[World.cell?,h1,h4 j hj]
theorem ej.free{w:World}{g:Nat}{s:ByteArray}{kk:Nat}(h:ej w g s kk)(j:Nat)(hj:j<s.size): w.frozen? ⟨g,j,none⟩=false:=by
 obtain⟨cs,e,fz,h1,h2,h3,h4⟩:=h;obtain⟨lo,hi⟩:=fz;simp only[World.frozen?,h1,Bool.and_eq_false_iff,decide_eq_false_iff_not]
 left
 simp only at h2;omega
theorem ia(w:World)(e:TypeId)(s:ByteArray): ej (Lib.bytesWorld w e s) w.heap.size s 0:=by
 have hcs:s.size≤(Lib.bytesCells w e s).size:=by
  unfold Lib.bytesCells;rw[Array.size_append,Array.size_map];show s.size≤s.size+_;omega
 refine⟨_,_,_,Lib.bytesWorld_at_new w e s,hcs,hcs,fun j hj=>?_⟩;rw[if_neg (Nat.not_lt_zero _)];simp[Lib.bytesCells,Array.getElem?_append,List.getD,hj]
theorem pI{b:UInt8}(h:¬ (65≤b.toNat∧b.toNat≤90)): eq b=b:=by unfold eq;rw[if_neg h]
theorem nB{b:UInt8}(h1:65≤b.toNat)(h2:b.toNat≤90): ((eq b).toNat:Int)=(b.toNat:Int)+32:=by
 unfold eq;rw[if_pos ⟨h1,h2⟩,UInt8.toNat_add];show(((b.toNat+32)%256:Nat):Int)=_;omega
theorem ej.skip{w:World}{g:Nat}{s:ByteArray}{kk:Nat}(h:ej w g s kk)(hk:¬ (65≤(s.data.toList.getD kk 0).toNat∧(s.data.toList.getD kk 0).toNat≤90)): ej w g s (kk+1):=by
 obtain⟨cs,e,fz,h1,h2,h3,h4⟩:=h;refine⟨cs,e,fz,h1,h2,h3,fun j hj=>?_⟩;rw[h4 j hj]
 by_cases e1:j<kk
 ·rw[if_pos e1,if_pos (by omega)]
 · rw [if_neg e1]
   by_cases e2:j=kk
   · subst e2
     rw[if_pos (by omega)];unfold mx;rw[pI hk]
   ·rw[if_neg (by omega)]
theorem ej.step{w:World}{g:Nat}{s:ByteArray}{kk:Nat}(h:ej w g s kk)(hlt:kk<s.size)(v:Int)(hv:v=mx s kk): ej (w.setCell ⟨g,kk,none⟩ (.int .u8 v)) g s (kk+1):=by
 obtain⟨cs,e,fz,h1,h2,h3,h4⟩:=h;subst hv;refine⟨_,e,fz,by rw[setCell_eq_setRow w g kk cs e fz _ h1];exact setRow_heap w g cs _ e fz h1,h2,by simpa using h3,fun j hj=>?_⟩;rw[Array.getElem?_setIfInBounds]
 by_cases e2:kk=j
 · subst e2
   rw[if_pos rfl,if_pos (by omega),if_pos (by omega)]
 · rw [if_neg e2, h4 j hj]
   by_cases e1:j<kk
   ·rw[if_pos e1,if_pos (by omega)]
   ·rw[if_neg e1,if_neg (by omega)]
theorem ej.below{w0 w:World}{g:Nat}{s:ByteArray}{kk:Nat}(h:ej w g s kk)(hb:Below w0.heap.size w0 w)(hg:w0.heap.size≤g)(v:Value): Below w0.heap.size w0 (w.setCell ⟨g,kk,none⟩ v):=by
 obtain⟨cs,e,fz,h1,h2,h3,h4⟩:=h;rw[setCell_eq_setRow w g kk cs e fz _ h1];exact⟨hb.os,hb.tape,hb.output,by rw[setRow_size];exact hb.size,fun k hk=>by rw[setRow_other w g k _ (by omega)];exact hb.block k hk⟩
def iA(s:ByteArray): List Int:=(List.range s.size).map (mx s)
theorem ej.reads{w:World}{g:Nat}{s:ByteArray}(h:ej w g s s.size)(hs:s.size<1099511627776): cN w .u8 (some ⟨g,0,none⟩) s.size (iA s):=by
 refine⟨by simp[iA],by omega,fun _=>⟨_,rfl,fun j hj=>?_⟩⟩;have:=h.cell j hj;rw[if_pos hj]at this;rw[dj,this];simp[iA,List.getD_eq_getElem?_getD,hj]
theorem fV(s:ByteArray): strOfNums (iA s)=mkB (s.data.toList.map eq):=by
 apply fK;rw[strOfNums_data,cn];apply List.ext_getElem?;intro j;unfold iA mx;simp only[List.getElem?_map,List.map_map]
 by_cases hj:j<s.size
 · have hj2 : j < s.data.toList.length := by rw [← aU]; exact hj
   rw[List.getElem?_range hj,List.getElem?_eq_getElem hj2];simp[List.getD_eq_getElem?_getD,List.getElem?_eq_getElem hj2];rw[Array.getElem?_eq_getElem (show j<s.data.size from hj)];rfl
 · rw [List.getElem?_eq_none (by rw [List.length_range]; omega), List.getElem?_eq_none (by rw [← aU]; omega)]
   rfl
theorem nl(s:ByteArray)(hs:s.size<1099511627776)(w:World):
 Calls Tryz.prog 176 #[.string s] w fun e w'=>e = .returned (.string (mkB (s.data.toList.map eq)))∧Below w.heap.size w w':=by
 have kb:=fun W=>gL (P:=Tryz.prog) 9 43 5 Tryz.underlying9 Tryz.underlying43 Tryz.underlying5 s W
 go_enter Tryz.func176,Tryz.ntmps176;go_wp2;go_loopg [4,5,10] s.size (fun gg _ _ g0 wr=> ∃ kk:Nat,kk≤s.size∧s.size-kk≤gg∧g0 = .int .i64 kk∧ab (Below w.heap.size w wr)∧ab (ej wr w.heap.size s kk))
 case atStart=>exact⟨0,Nat.zero_le _,by omega,rfl,⟨Go.Proofs.YtiegkjimpclmaaaGreatDoorW.PrintWords.bytes_below (Below.refl _ w) (Nat.le_refl _) _ s⟩,⟨ia w _ s⟩⟩
 case round=>
  obtain⟨kk,hkk,hg,rfl,BW,SA⟩:=hrel
  by_cases hlt:kk<s.size
  · have hltz : (kk : Int) < (s.size : Int) := by omega
    have hc:=SA.out.cell kk hlt;rw[if_neg (by omega)]at hc;have hf:=SA.out.free kk hlt;have HV:=ab.mk (show mx s kk=((eq (s.data.toList.getD kk 0)).toNat:Int)from rfl);have HS:=ab.mk (fun h=>SA.out.skip (kk:=kk) h);generalize s.data.toList.getD kk 0=b at hc HV HS;have hbl:b.toNat<256:=b.toNat_lt
    by_cases h65:65≤b.toNat
    · have h65d : decide ((65 : Int) ≤ (b.toNat : Int)) = true := decide_eq_true (by omega)
      by_cases h90:b.toNat≤90
      · have h90d : decide ((b.toNat : Int) ≤ 90) = true := decide_eq_true (by omega)
        go_wp2;go_roundg (s.size-(kk+1))
        case measure=>omega
        case rel=>exact⟨kk+1,by omega,by omega,by go_num,⟨SA.out.below BW.out (Nat.le_refl _) _⟩,⟨SA.out.step hlt _ (by rw[HV.out,nB h65 h90];omega)⟩⟩
      · have h90d : decide ((b.toNat : Int) ≤ 90) = false := decide_eq_false (by omega)
        go_wp2;go_roundg (s.size-(kk+1))
        case measure=>omega
        case rel=>exact⟨kk+1,by omega,by omega,by go_num,BW,⟨HS.out (by omega)⟩⟩
    · have h65d : decide ((65 : Int) ≤ (b.toNat : Int)) = false := decide_eq_false (by omega)
      go_wp2;go_roundg (s.size-(kk+1))
      case measure=>omega
      case rel=>exact⟨kk+1,by omega,by omega,by go_num,BW,⟨HS.out (by omega)⟩⟩
  · have hltz : ¬ (kk : Int) < (s.size : Int) := by omega
    obtain rfl:kk=s.size:=by omega
    have hst:=fun c=>eD (P:=Tryz.prog) (src:=43) (dst:=9) (c:=c) Tryz.underlying43 Tryz.underlying5 Tryz.underlying9 (SA.out.reads hs)
    rw[fV]at hst;go_wp2;go_ret;exact⟨rfl,BW.out⟩
def em.f(s:ByteArray): Option ByteArray:=if s.size<1099511627776 then some (mkB (s.data.toList.map eq))else none
theorem em.c(a0:ByteArray)(r:ByteArray)(w:World)(h:em.f a0=some r):
 Calls Tryz.prog 176 #[.string a0] w fun e w'=>e = .returned (.string r)∧Below w.heap.size w w':=by
 unfold em.f at h
 by_cases hs:a0.size<1099511627776
 · rw [if_pos hs] at h
   obtain rfl:=Option.some.inj h;exact nl a0 hs w
 · rw [if_neg hs] at h
   cases h
def gD(s:ByteArray): ByteArray×Bool:=if s.size≤60 then(if cO (s.data.toList.map eq)=true then(mkB (s.data.toList.map eq),true)else((⟨#[]⟩:ByteArray),false))else((⟨#[]⟩:ByteArray),false)
def dw.f(s:ByteArray): Option (ByteArray×Bool):=some (gD s)
theorem kp(t:ByteArray)(ht:t.size≤60)(W:World): Calls Tryz.prog 127 #[.string t] W fun e W'=>e = .returned (.bool (cO t.data.toList))∧Below W.heap.size W W':=by
 obtain⟨k,hk⟩:=(Pure.gS t (by omega)).rounds;exact dv.c k t _ W hk
set_option maxHeartbeats 4000000 in
theorem dw.c(a0:ByteArray)(r1:ByteArray)(r2:Bool)(w:World)(h:dw.f a0=some (r1,r2)):
 Calls Tryz.prog 169 #[.string a0] w fun e w'=>e = .returned (.tuple #[.string r1,.bool r2])∧Below w.heap.size w w':=by
 have HR:=ab.mk (Option.some.inj h);clear h;unfold gD at HR
 by_cases h60:a0.size≤60
 · have h60d : decide ((60 : Int) < (a0.size : Int)) = false := decide_eq_false (by omega)
   have h60e:decide (60<a0.size)=false:=decide_eq_false (by omega);rw[if_pos h60]at HR
   have hs:a0.size<1099511627776:=by omega
   have HS60:=ab.mk h60;clear h60
   have gc:=fun W=>kp (mkB (a0.data.toList.map eq)) (by rw[cF,List.length_map,← aU];exact HS60.out) W
   rw[cn]at gc;generalize cO (a0.data.toList.map eq)=gd at gc HR
   have kb:=fun W=>gL (P:=Tryz.prog) 9 43 5 Tryz.underlying9 Tryz.underlying43 Tryz.underlying5 a0 W
   go_enter Tryz.func169,Tryz.ntmps169;go_wp2;go_loopg [5,6,14] a0.size (fun gg _ _ g0 wr=> ∃ kk:Nat,kk≤a0.size∧a0.size-kk≤gg∧g0 = .int .i64 kk∧ab (Below w.heap.size w wr)∧ab (ej wr w.heap.size a0 kk))
   case atStart=>exact⟨0,Nat.zero_le _,by omega,rfl,⟨Go.Proofs.YtiegkjimpclmaaaGreatDoorW.PrintWords.bytes_below (Below.refl _ w) (Nat.le_refl _) _ a0⟩,⟨ia w _ a0⟩⟩
   case round=>
    obtain⟨kk,hkk,hg,rfl,BW,SA⟩:=hrel
    by_cases hlt:kk<a0.size
    · clear gc
      have hltz:(kk:Int)<(a0.size:Int):=by omega
      have hc:=SA.out.cell kk hlt;rw[if_neg (by omega)]at hc;have hf:=SA.out.free kk hlt;have HV:=ab.mk (show mx a0 kk=((eq (a0.data.toList.getD kk 0)).toNat:Int)from rfl);have HS:=ab.mk (fun h=>SA.out.skip (kk:=kk) h);generalize a0.data.toList.getD kk 0=b at hc HV HS;have hbl:b.toNat<256:=b.toNat_lt
      by_cases h65:65≤b.toNat
      · have h65d : decide ((65 : Int) ≤ (b.toNat : Int)) = true := decide_eq_true (by omega)
        by_cases h90:b.toNat≤90
        · have h90d : decide ((b.toNat : Int) ≤ 90) = true := decide_eq_true (by omega)
          go_wp2;go_roundg (a0.size-(kk+1))
          case measure=>omega
          case rel=>exact⟨kk+1,by omega,by omega,by go_num,⟨SA.out.below BW.out (Nat.le_refl _) _⟩,⟨SA.out.step hlt _ (by rw[HV.out,nB h65 h90])⟩⟩
        · have h90d : decide ((b.toNat : Int) ≤ 90) = false := decide_eq_false (by omega)
          go_wp2;go_roundg (a0.size-(kk+1))
          case measure=>omega
          case rel=>exact⟨kk+1,by omega,by omega,by go_num,BW,⟨HS.out (by omega)⟩⟩
      · have h65d : decide ((65 : Int) ≤ (b.toNat : Int)) = false := decide_eq_false (by omega)
        go_wp2;go_roundg (a0.size-(kk+1))
        case measure=>omega
        case rel=>exact⟨kk+1,by omega,by omega,by go_num,BW,⟨HS.out (by omega)⟩⟩
    · have hltz : ¬ (kk : Int) < (a0.size : Int) := by omega
      obtain rfl:kk=a0.size:=by omega
      have hst:=fun c=>eD (P:=Tryz.prog) (src:=43) (dst:=9) (c:=c) Tryz.underlying43 Tryz.underlying5 Tryz.underlying9 (SA.out.reads hs)
      rw[fV]at hst;have hst2:=ab.mk (fun W hb c=>eD (P:=Tryz.prog) (src:=43) (dst:=9) (c:=c) Tryz.underlying43 Tryz.underlying5 Tryz.underlying9 ((SA.out.reads hs).below (w1:=W) hb))
      cases gd with
      | true=>
       obtain⟨rfl,rfl⟩:=Prod.mk.inj HR.out;clear HR;go_wp2_with (first|(go_at_call 127;refine(gc _).mono ?_;rintro e w1 ⟨rfl,hb⟩;have hst3:=hst2.out w1 hb;rw[fV]at hst3));go_ret2;exact⟨rfl,bj BW.out BW.out.size hb⟩
      | false=>
       obtain⟨rfl,rfl⟩:=Prod.mk.inj HR.out;clear HR;go_wp2_with (first|(go_at_call 127;refine(gc _).mono ?_;rintro e w1 ⟨rfl,hb⟩;have hst3:=hst2.out w1 hb;rw[fV]at hst3));go_ret2;exact⟨rfl,bj BW.out BW.out.size hb⟩
 · have h60d : decide ((60 : Int) < (a0.size : Int)) = true := decide_eq_true (by omega)
   have h60e:decide (60<a0.size)=true:=decide_eq_true (by omega);rw[if_neg h60]at HR;obtain⟨rfl,rfl⟩:=Prod.mk.inj HR.out;clear HR;go_enter Tryz.func169,Tryz.ntmps169;go_wp2;go_ret2;exact⟨rfl,Below.refl _ _⟩
end Go.Proofs.YtiegkjimpclmaaaGreatDoor.P
namespace Go.Proofs.YtiegkjimpclmaaaGreatDoor.Pure
open Go.Proofs.YtiegkjimpclmaaaGreatDoor.P
theorem q_(l:List ByteArray)(i:Nat)(h:i<l.length): bn ByteArray.empty l (i:Int)=l[i]:=by
 unfold bn;rw[Int.toNat_natCast,List.getD_eq_getElem?_getD,List.getElem?_eq_getElem h];rfl
theorem mn(parts:List ByteArray)(hp:∀ p∈parts,p.size≤1000)(hl:parts.length≤1000): ∀ (m i:Nat) (acc:ByteArray),i+m=parts.length→acc.size+m*1024<1099511627776 →
 ∃ r,Ev (fun k=>aT.l0 k acc parts (parts.length:Int) (i:Int)) r∧Ev (fun k=>bh.l0 k acc parts (parts.length:Int) (i:Int)) (r++(⟨#[0]⟩:ByteArray))∧r.size=acc.size+((parts.drop i).map fun p=>1+p.size).sum∧r.size<1099511627776
 | 0,i,acc,him,ha=>by
  refine⟨acc,Ev.step (f:=fun _=>some acc) (fun k=>?_) (Ev.now _),Ev.step (f:=fun _=>some (acc++(⟨#[0]⟩:ByteArray))) (fun k=>?_) (Ev.now _),by rw[List.drop_of_length_le (by omega)];rfl,by omega⟩
  · show aT.l0 (k + 1) acc parts (parts.length : Int) (i : Int) = _
    unfold aT.l0;rw[if_neg (by omega)]
  · show bh.l0 (k + 1) acc parts (parts.length : Int) (i : Int) = _
    unfold bh.l0;rw[if_neg (by omega),if_pos (by omega)]
 | m+1,i,acc,him,ha=>by
  have hi:i<parts.length:=by omega
  have hs:∀ v:Int,(strOfNums [v]).size=1:=fun v=>by rw[strOfNums_size];rfl
  have hpi:=hp _ (List.getElem_mem hi)
  obtain⟨r,h1,h2,h3,h4⟩:=mn parts hp hl m (i+1) (acc++(strOfNums [((parts[i].size:Int))%256]++parts[i])) (by omega) (by
   rw[ByteArray.size_append,ByteArray.size_append,hs];omega)
  refine⟨r,Ev.step (fun k=>?_) h1,Ev.step (fun k=>?_) h2,?_,h4⟩
  · show aT.l0 (k + 1) acc parts (parts.length : Int) (i : Int) = _
    conv=>lhs;unfold aT.l0
    rw[if_pos (by omega),if_pos (by omega),if_pos (by omega),q_ _ _ hi,Option.bind_some,if_pos (by rw[hs];omega),if_pos (by rw[ByteArray.size_append,hs];omega),d_ (by omega)]
  · show bh.l0 (k + 1) acc parts (parts.length : Int) (i : Int) = _
    conv=>lhs;unfold bh.l0
    rw[if_pos (by omega),if_pos (by omega),if_pos (by omega),q_ _ _ hi,Option.bind_some,if_pos (by rw[hs];omega),if_pos (by rw[ByteArray.size_append,hs];omega),d_ (by omega)]
  · rw [h3, ByteArray.size_append, ByteArray.size_append, hs, List.drop_eq_getElem_cons hi, List.map_cons, List.sum_cons]
    omega
theorem iY: ∀ l:List UInt8,((bC 46 l).map fun p=>1+p.length).sum=l.length+1
 | []=>rfl
 | x::xs=>by
  have ih:=iY xs;unfold bC
  split
  · rw [List.map_cons, List.sum_cons, ih, List.length_cons, List.length_nil]
    omega
  · cases hs:bC 46 xs with
    | nil=>exact absurd hs (eL 46 xs)
    | cons p ps=>
     rw[hs,List.map_cons,List.sum_cons]at ih;rw[List.map_cons,List.sum_cons,List.length_cons,List.length_cons];omega
theorem nU(s:ByteArray)(h:cO s.data.toList=true): ∃ r,Ev (fun k=>aT.f k s) r∧Ev (fun k=>bh.f k s) (r++(⟨#[0]⟩:ByteArray))∧r.size=(if s.size=0 then 0 else s.size+1):=by
 have hg:=ec h;have hss:=aU s;obtain⟨q,e1,e2,e3⟩:=fH s (by omega);have e3:=e3 (e2.trans h)
 have hlen:(bG s.data.toList).length≤61:=by
  unfold bG
  split
  ·simp
  ·have:=eU 46 s.data.toList;omega
 obtain⟨r,h1,h2,h3,h4⟩:=mn ((bG s.data.toList).map mkB) (by
  intro p hp;obtain⟨x,hx,rfl⟩:=List.mem_map.1 hp;rw[cF];unfold bG at hx
  split at hx
  ·cases hx
  ·have:=eY 46 _ x hx;omega) (by rw[List.length_map];omega) _ 0 (⟨#[]⟩:ByteArray) (Nat.zero_add _) (by rw[List.length_map];show 0+_<_;omega)
 refine⟨r,?_,?_,?_⟩
 · refine Ev.congr (f := fun k => aT.l0 k (⟨#[]⟩ : ByteArray) ((bG s.data.toList).map mkB) (((bG s.data.toList).map mkB).length : Int) 0) (fun k => ?_) h1
   unfold aT.f;rw[fU s (by omega)];rfl
 · refine Ev.congr (f := fun k => (aw.f k s).bind fun g0 => (bh.l0 k (⟨#[]⟩ : ByteArray) g0.1 (g0.1.length : Int) 0)) (fun k => rfl) (Ev.bind e1 ?_)
   rw[e3];exact h2
 · rw [h3, List.drop_zero, List.map_map]
   have e:((fun p:ByteArray=>1+p.size) ∘ mkB)=fun p=>1+p.length:=by funext p;show 1+(mkB p).size=_;rw[cF]
   rw[e];unfold bG
   by_cases h0:s.data.toList=[]
   ·rw[if_pos h0,if_pos (by rw[hss,h0];rfl)];rfl
   · rw [if_neg h0, if_neg (by rw [hss]; have := List.length_pos_iff.2 h0; omega), iY, ← hss]
     show 0+(s.size+1)=_;omega
theorem oY(p m q:List ByteArray)(a b:ByteArray): ((p++(a::(m ++ [b]))++q).set p.length b).set (p.length+m.length+1) a=(p ++ [b])++m++(a::q):=by
 have h1:(p++(a::(m ++ [b]))++q).set p.length b=p++b::(m++b::q):=by simp[List.set_append]
 have h2:(p++b::(m++b::q))=(p++b::m)++b::q:=by simp
 have h3:p.length+m.length+1=(p++b::m).length:=by simp;omega
 rw[h1,h2,h3,List.set_append_right _ _ (Nat.le_refl _),Nat.sub_self];simp
theorem pb(p m q:List ByteArray)(a b:ByteArray): bn ByteArray.empty (p++(a::(m ++ [b]))++q) (p.length:Int)=a:=by
 unfold bn;simp[List.getD_eq_getElem?_getD]
theorem pn(p m q:List ByteArray)(a b:ByteArray): bn ByteArray.empty (p++(a::(m ++ [b]))++q) ((p.length+m.length+1:Nat):Int)=b:=by
 have h2:p++(a::(m ++ [b]))++q=(p++a::m)++b::q:=by simp
 have h3:p.length+m.length+1=(p++a::m).length:=by simp;omega
 unfold bn;rw[Int.toNat_natCast,h2,h3];simp[List.getD_eq_getElem?_getD]
theorem iy: ∀ (n:Nat) (p m q:List ByteArray),m.length≤n→p.length+m.length+q.length<1099511627776 →
 Ev (fun k=>al.l0 k (p++m++q) (p.length:Int) ((p.length:Int)+(m.length:Int)-1)) (p++m.reverse++q)
 | n,p,[],q,hn,hb=>by
  refine Ev.step (f:=fun _=>some _) (fun k=>?_) (Ev.now _);show al.l0 (k+1) (p ++ []++q) (p.length:Int) ((p.length:Int)+(0:Int)-1)=_;unfold al.l0;rw[if_neg (by omega)];rfl
 | n,p,a::t,q,hn,hb=>by
  rcases List.eq_nil_or_concat t with rfl|⟨m,b,rfl⟩
  · refine Ev.step (f := fun _ => some _) (fun k => ?_) (Ev.now _)
    show al.l0 (k+1) (p ++ [a]++q) (p.length:Int) ((p.length:Int)+(1:Int)-1)=_;unfold al.l0;rw[if_neg (by omega)];rfl
  · rw [List.concat_eq_append] at hn hb ⊢
    have hl:(a::(m ++ [b])).length=m.length+2:=by simp
    rw[hl]at hn hb ⊢
    match n,hn with
    | n+1,hn=>
     have ih:=iy n (p ++ [b]) m (a::q) (by omega) (by simp;omega)
     have e:p++(a::(m ++ [b])).reverse++q=(p ++ [b])++m.reverse++(a::q):=by simp
     rw[e];refine Ev.step (fun k=>?_) ih;show al.l0 (k+1) (p++(a::(m ++ [b]))++q) (p.length:Int) ((p.length:Int)+((m.length+2:Nat):Int)-1)=_
     have hj:(p.length:Int)+((m.length+2:Nat):Int)-1=((p.length+m.length+1:Nat):Int):=by omega
     have hlen:(p++(a::(m ++ [b]))++q).length=p.length+m.length+2+q.length:=by simp;omega
     rw[hj]
     conv=>lhs;unfold al.l0
     rw[hlen,if_pos (by omega),if_pos (by omega),if_pos (by omega),if_pos (by omega),if_pos (by omega),pb,pn,Int.toNat_natCast,Int.toNat_natCast,oY];rw[d_ (by omega),show wrap64 (((p.length+m.length+1:Nat):Int)-1)=((p.length+m.length:Nat):Int) by unfold wrap64;omega]
     have e1:(p ++ [b]).length=p.length+1:=by simp
     rw[e1]
     congr 1
     omega
theorem km(l:List ByteArray)(h:l.length<1099511627776): Ev (fun k=>al.f k l) l.reverse:=by
 have:=iy l.length [] l [] (Nat.le_refl _) (by simpa using h);simp only[List.nil_append,List.append_nil,List.length_nil]at this;refine Ev.congr (fun k=>?_) this;unfold al.f
 congr 1
 unfold wrap64;show _=(0:Int)+(l.length:Int)-1;omega
def gw(a b:ByteArray): Int:=if Op.bytesLess a.toList b.toList=true then -1 else(if Op.bytesLess b.toList a.toList=true then 1 else 0)
def ij: List ByteArray→List ByteArray→Int
 | [],[]=>0
 | [],_::_=> -1
 | _::_,[]=>1
 | a::x,b::y=>if gw a b=0 then ij x y else gw a b
theorem rJ(a b:ByteArray): de.f a b=some (gw a b):=by
 unfold de.f bO.f gw;simp only[bne_self_eq_false,Option.bind_some];rw[if_neg (by simp),if_neg (by simp)]
 split
 ·rfl
 ·split<;>rfl
theorem nZ(l:List ByteArray)(i:Nat)(h:i<l.length): bn ByteArray.empty l (i:Int)=l[i]:=by
 unfold bn;rw[Int.toNat_natCast,List.getD_eq_getElem?_getD,List.getElem?_eq_getElem h];rfl
theorem iB(x y:List ByteArray)(hx:x.length<1099511627776)(hy:y.length<1099511627776): ∀ (m i:Nat),i+m=x.length→i≤y.length →
 Ev (fun k=>aG.l0 k x y x (x.length:Int) (i:Int)) (ij (x.drop i) (y.drop i))
 | 0,i,h,hiy=>by
  refine Ev.step (f:=fun _=>some _) (fun k=>?_) (Ev.now _);show aG.l0 (k+1) x y x (x.length:Int) (i:Int)=_;unfold aG.l0;rw[if_neg (by omega),List.drop_of_length_le (by omega)]
  by_cases hl:(x.length:Int)<(y.length:Int)
  · rw [if_pos hl, List.drop_eq_getElem_cons (show i < y.length by omega)]
    rfl
  · rw [if_neg hl, List.drop_of_length_le (by omega)]
    rfl
 | m+1,i,h,hiy=>by
  by_cases hl:(i:Int)≥(y.length:Int)
  · refine Ev.step (f := fun _ => some _) (fun k => ?_) (Ev.now _)
    show aG.l0 (k+1) x y x (x.length:Int) (i:Int)=_;unfold aG.l0;rw[if_pos (by omega),if_pos (by omega),if_pos (by omega),if_pos hl,List.drop_of_length_le (show y.length≤i by omega),List.drop_eq_getElem_cons (show i<x.length by omega)];rfl
  · have ih := iB x y hx hy m (i + 1) (by omega) (by omega)
    have hc:ij (x.drop i) (y.drop i)=if gw x[i] y[i]=0 then ij (x.drop (i+1)) (y.drop (i+1))else gw x[i] y[i]:=by
     rw[List.drop_eq_getElem_cons (show i<x.length by omega),List.drop_eq_getElem_cons (show i<y.length by omega)];rfl
    refine Ev.step (f:=fun k=>if gw x[i] y[i]=0 then aG.l0 k x y x (x.length:Int) ((i+1:Nat):Int)else some (gw x[i] y[i])) (fun k=>?_) ?_
    · show aG.l0 (k + 1) x y x (x.length : Int) (i : Int) = _
      conv=>lhs;unfold aG.l0
      rw[if_pos (by omega),if_pos (by omega),if_pos (by omega),if_neg hl,if_pos (by omega),nZ x i (by omega),nZ y i (by omega),rJ,d_ (by omega)];rfl
    · rw [hc]
      by_cases h0:gw x[i] y[i]=0
      ·simp only[if_pos h0];exact ih
      ·simp only[if_neg h0];exact Ev.now _
theorem np(x y:List ByteArray)(hx:x.length<1099511627776)(hy:y.length<1099511627776): Ev (fun k=>aG.f k x y) (ij x y):=by
 have:=iB x y hx hy x.length 0 (by omega) (by omega);exact this
theorem ib(x y:List ByteArray)(hx:x.length<1099511627776)(hy:y.length<1099511627776): ∀ (m i:Nat),i+m=x.length→i≤y.length →
 Ev (fun k=>bl.l0 k x y ((i+1:Nat):Int)) (ij (x.reverse.drop i) (y.reverse.drop i))
 | m,i,h,hiy=>by
  have hj:∀ k,bl.l0 (k+1) x y ((i+1:Nat):Int)=bl.j1 k x y ((i+1:Nat):Int) (decide (i+1≤x.length∧i+1≤y.length)):=by
   intro k
   conv=>lhs;unfold bl.l0
   by_cases hl:((i+1:Nat):Int)≤(x.length:Int)
   · rw [if_pos hl]
     congr 1
     rw[decide_eq_decide];omega
   · rw [if_neg hl]
     congr 1
     rw[eq_comm,decide_eq_false_iff_not];omega
  refine Ev.step hj ?_
  by_cases hd:i+1≤x.length∧i+1≤y.length
  · obtain ⟨m, rfl⟩ : ∃ m', m = m' + 1 := ⟨m - 1, by omega⟩
    have hrx:i<x.reverse.length:=by rw[List.length_reverse];omega
    have hry:i<y.reverse.length:=by rw[List.length_reverse];omega
    have ih:=ib x y hx hy m (i+1) (by omega) (by omega)
    have hwx:wrap64 ((x.length:Int)-((i+1:Nat):Int))=((x.length-1-i:Nat):Int):=by unfold wrap64;omega
    have hwy:wrap64 ((y.length:Int)-((i+1:Nat):Int))=((y.length-1-i:Nat):Int):=by unfold wrap64;omega
    have gx:bn ByteArray.empty x ((x.length-1-i:Nat):Int)=x.reverse[i]:=by rw[nZ _ _ (by omega),List.getElem_reverse]
    have gy:bn ByteArray.empty y ((y.length-1-i:Nat):Int)=y.reverse[i]:=by rw[nZ _ _ (by omega),List.getElem_reverse]
    have hc:ij (x.reverse.drop i) (y.reverse.drop i)=if gw x.reverse[i] y.reverse[i]=0 then ij (x.reverse.drop (i+1)) (y.reverse.drop (i+1))else gw x.reverse[i] y.reverse[i]:=by
     rw[List.drop_eq_getElem_cons hrx,List.drop_eq_getElem_cons hry];rfl
    refine Ev.step (f:=fun k=>if gw x.reverse[i] y.reverse[i]=0 then bl.l0 k x y ((i+1+1:Nat):Int)else some (gw x.reverse[i] y.reverse[i])) (fun k=>?_) ?_
    · rw [decide_eq_true hd]
      conv=>lhs;unfold bl.j1
      rw[if_pos rfl,hwx,hwy,if_pos (by omega),if_pos (by omega),if_pos (by omega),if_pos (by omega),gx,gy,d_ (by omega)];unfold gw
      by_cases h1:Op.bytesLess x.reverse[i].toList y.reverse[i].toList=true
      ·rw[if_pos h1,if_pos h1];rfl
      · rw [if_neg h1, if_neg h1]
        by_cases h2:Op.bytesLess y.reverse[i].toList x.reverse[i].toList=true
        ·rw[if_pos h2,if_pos h2];rfl
        ·rw[if_neg h2,if_neg h2];rfl
    · rw [hc]
      by_cases h0:gw x.reverse[i] y.reverse[i]=0
      ·simp only[if_pos h0];exact ih
      ·simp only[if_neg h0];exact Ev.now _
  · refine Ev.step (f := fun _ => some _) (fun k => ?_) (Ev.now _)
    rw[decide_eq_false hd]
    conv=>lhs;unfold bl.j1
    rw[if_neg (by simp)]
    have hcase:∀ (p q:List ByteArray),(p=[]∨q=[])→ij p q=if p.length<q.length then -1 else if p.length>q.length then 1 else 0:=by
     intro p q hpq
     cases p<;>cases q<;>first|rfl|(simp at hpq)| (simp[ij])
    rw[hcase _ _ (by
     by_cases h1:i+1≤x.length
     ·right;apply List.drop_of_length_le;rw[List.length_reverse];omega
     ·left;apply List.drop_of_length_le;rw[List.length_reverse];omega)]
    simp only[List.length_drop,List.length_reverse]
    by_cases h1:(x.length:Int)<(y.length:Int)
    ·rw[if_pos h1,if_pos (by omega)]
    · by_cases h2 : (x.length : Int) > (y.length : Int)
      ·rw[if_neg h1,if_pos h2,if_neg (by omega),if_pos (by omega)]
      ·rw[if_neg h1,if_neg h2,if_neg (by omega),if_neg (by omega)]
 termination_by m=>m
def lE(a b:List UInt8): Int:=ij ((bG a).map mkB).reverse ((bG b).map mkB).reverse
theorem iN(s:ByteArray)(hs:s.size≤1048576): ((bG s.data.toList).map mkB).length≤1048577:=by
 rw[List.length_map];unfold bG
 split
 ·simp
 ·have:=eU 46 s.data.toList;rw[← aU]at this;omega
theorem lZ(a b:ByteArray)(ha:a.size≤1048576)(hb:b.size≤1048576): Ev (fun k=>dx.f k a b) (lE a.data.toList b.data.toList):=by
 have h1:=iN a ha;have h2:=iN b hb
 refine Ev.congr (f:=fun k=>(al.f k ((bG a.data.toList).map mkB)).bind fun g0=>(al.f k ((bG b.data.toList).map mkB)).bind fun g1=>(aG.f k g0 g1).bind fun g2=>some g2) (fun k=>?_) ?_
 · unfold dx.f
   rw[fU a (by omega),fU b (by omega)];rfl
 · refine Ev.bind (km _ (by omega)) (Ev.bind (km _ (by omega)) (Ev.bind (np _ _ ?_ ?_) (Ev.now _)))
   ·rw[List.length_reverse];omega
   ·rw[List.length_reverse];omega
theorem lV(a b:ByteArray)(ha:a.size≤1048576)(hb:b.size≤1048576)(ga:cO a.data.toList=true)(gb:cO b.data.toList=true): Ev (fun k=>bl.f k a b) (lE a.data.toList b.data.toList):=by
 obtain⟨r1,e1,e2,e3⟩:=fH a (by omega);obtain⟨r2,f1,f2,f3⟩:=fH b (by omega);have h1:=iN a ha;have h2:=iN b hb;refine Ev.congr (fun k=>rfl) (Ev.bind e1 (Ev.bind f1 ?_));rw[e3 (e2.trans ga),f3 (f2.trans gb)];exact ib _ _ (by omega) (by omega) _ 0 (Nat.zero_add _) (by omega)
def fx: List UInt8→List UInt8
 | []=>[]
 | x::xs=>if x=46 then xs else fx xs
theorem jO(l:List UInt8): (fx l).length≤l.length-1:=by
 induction l with
 | nil=>simp[fx]
 | cons x xs ih=>
  unfold fx
  split
  ·simp
  ·simp at ih ⊢;omega
theorem jG(p r:List UInt8)(h:∀ x∈p,x≠46): fx (p++46::r)=r:=by
 induction p with
 | nil=>simp[fx]
 | cons x xs ih=>rw[List.cons_append,fx,if_neg (h x List.mem_cons_self),ih fun y hy=>h y (List.mem_cons_of_mem _ hy)]
theorem g_(l:List UInt8)(h:∀ x∈l,x≠46): fx l=[]:=by
 induction l with
 | nil=>rfl
 | cons x xs ih=>rw[fx,if_neg (h x List.mem_cons_self),ih fun y hy=>h y (List.mem_cons_of_mem _ hy)]
theorem jn(s:ByteArray)(hs:s.size<1099511627776): ∀ (m i:Nat),i+m=s.size →
 bo.l0 (m+1) s (i:Int)=some (mkB (fx (s.data.toList.drop i)))
 | 0,i,him=>by
  unfold bo.l0;rw[if_neg (by omega),List.drop_of_length_le (by rw[← aU];omega)];rfl
 | m+1,i,him=>by
  have hi:i<s.data.toList.length:=by rw[← aU];omega
  unfold bo.l0;rw[if_pos (by omega),if_pos (by omega),d_ (by omega),eS s i hi,List.drop_eq_getElem_cons hi];unfold fx
  by_cases h:s.data.toList[i]=46
  ·rw[if_pos (by rw[h];rfl),if_pos h,if_pos (by omega),if_pos (by omega),Int.toNat_natCast,iE]
  ·rw[if_neg (by intro e;apply h;apply UInt8.toNat_inj.1;simpa using Int.ofNat.inj e),if_neg h,jn s hs m (i+1) (by omega)]
theorem kH(s:ByteArray)(hs:s.size<1099511627776): Ev (fun k=>bo.f k s) (mkB (fx s.data.toList)):=by
 refine Ev.of (fun k=>bo.m _ _) (k:=s.size+1) ?_
 unfold bo.f;have:=jn s hs s.size 0 (by omega)
 simpa using this
theorem ig(s:ByteArray)(hs:s.size<4611686018427387904): dH.f s=some (mkB (fx s.data.toList)):=by
 unfold dH.f cy.f cX.f aV.f;rw[if_pos (show(⟨#[46]⟩:ByteArray).size=1 from rfl)];simp only[Option.bind_some];rw[show List.headD (⟨#[46]⟩:ByteArray).data.toList 0=46 from rfl,show(⟨#[46]⟩:ByteArray).size=1 from rfl]
 rcases eK 46 s.data.toList with⟨h1,h2⟩|⟨p,r,h1,h2,h3⟩
 · rw [h1, if_neg (by omega), g_ _ h2]
   rfl
 · have hl : p.length + (r.length + 1) = s.size := by rw [aU, h1]; simp
   rw[h3,show(((1:Nat):Int))=1 from rfl,d_ (by omega),if_pos (by omega),if_pos (by omega),if_pos (by omega),if_pos (by omega),if_pos (by omega),Int.toNat_natCast,Int.toNat_natCast,iE];simp only[Option.bind_some]
   have hd:s.data.toList.drop (p.length+1)=r:=by rw[h1,← List.drop_drop,List.drop_left];rfl
   rw[hd,h1,jG p r h2]
theorem nJ(n:Int)(h0:0≤n)(h9:n<10): strOfNums [(wrap64 (48+n))%256]=mkB [UInt8.ofNat (48+n.toNat)]:=by
 have e:wrap64 (48+n)%256=((48+n.toNat:Nat):Int):=by unfold wrap64;omega
 rw[e];show strOfNums [((48+n.toNat:Nat):Int)]=mkB [UInt8.ofNat (((48+n.toNat:Nat):Int).toNat)];rfl
theorem qR(p q:List UInt8): mkB p++mkB q=mkB (p++q):=by
 apply ByteArray.ext;simp[mkB,ByteArray.append]
theorem kt(u:Nat)(h:u<9223372036854775807): (Lib.decDigits u).length≤21:=by
 have:=Lib.itoa_length_le (u:Int) (by omega) (by omega)
 rwa [Lib.itoa_nonneg]at this
theorem qf: ∀ (n u:Nat),u≤n→u<9223372036854775807→Ev (fun k=>bX.f k (u:Int)) (mkB (Lib.decDigits u))
 | n,u,hn,hu=>by
  by_cases h10:u<10
  · refine Ev.step (f := fun _ => some (mkB (Lib.decDigits u))) (fun k => ?_) (Ev.now _)
    show bX.f (k+1) (u:Int)=_;unfold bX.f;rw[if_pos (by omega),nJ _ (by omega) (by omega),Lib.decDigits_one h10,Int.toNat_natCast]
  · cases n with
    | zero=>omega
    | succ n=>
     have ih:=qf n (u / 10) (by omega) (by omega);have hlen:=kt (u / 10) (by omega)
     have e1:wrap64 (Int.tdiv (u:Int) 10)=((u / 10:Nat):Int):=by
      rw[Int.tdiv_eq_ediv_of_nonneg (by omega),show(u:Int) / 10=((u / 10:Nat):Int) by omega]
      unfold wrap64;omega
     have e2:Int.tmod (u:Int) 10=((u%10:Nat):Int):=by
      rw[Int.tmod_eq_emod_of_nonneg (by omega)];omega
     rw[← e1]at ih;refine Ev.step (f:=fun k=>(bX.f k (wrap64 (Int.tdiv u 10))).bind fun g0=>((some (([(wrap64 (48+(Int.tmod u 10)))%256]:List Int):List Int)).bind fun g1=>(if g0.size+(strOfNums g1).size≤9223372036854775807 then(some (g0++(strOfNums g1)))else(none)))) (fun k=>?_) (Ev.bind ih ?_)
     · show bX.f (k + 1) (u : Int) = _
       rw[bX.f,if_neg (by omega)]
     · simp only [Option.bind_some]
       rw[e2,nJ _ (by omega) (by omega),Int.toNat_natCast,cF,cF];simp only[if_pos (show(Lib.decDigits (u / 10)).length + [UInt8.ofNat (48+u%10)].length≤9223372036854775807 by simp only[List.length_cons,List.length_nil];omega)];rw[qR,show Lib.decDigits (u / 10) ++ [UInt8.ofNat (48+u%10)]=Lib.decDigits u by rw[Lib.decDigits.eq_1 u,dif_neg h10]];exact Ev.now _
def itB(n:Int): ByteArray:=mkB (Lib.decDigits n.toNat)
theorem lY(n:Int)(h0:0≤n)(h1:n<9223372036854775807): (itB n).size≤21:=by
 unfold itB;rw[cF];exact kt _ (by omega)
theorem pK(n:Int)(h0:0≤n)(h1:n<9223372036854775807): Ev (fun k=>bX.f k n) (itB n):=by
 have:=qf n.toNat n.toNat (Nat.le_refl _) (by omega)
 rwa [show((n.toNat:Nat):Int)=n by omega]at this
end Go.Proofs.YtiegkjimpclmaaaGreatDoor.Pure
namespace Go.Proofs.YtiegkjimpclmaaaGreatDoor.P
attribute [local go_sem] cG cD c_ cZ ci ch cE cH
def ek.f(k:Nat)(a0_0:ByteArray)(a0_1:Int)(a0_2:Int)(a0_3:ByteArray): Option (Bool):=(bW.f k a0_0 a0_1 a0_2 a0_3).bind fun g0=>(some (!g0))
theorem ek.c(k:Nat)(a0_0:ByteArray)(a0_1:Int)(a0_2:Int)(a0_3:ByteArray)(r:Bool)(w:World)(h:ek.f k a0_0 a0_1 a0_2 a0_3=some r)(hv_:Vars w:=by exact vv_):
 Calls Tryz.prog 136 #[.agg #[.string a0_0,.int .i64 a0_1,.int .i64 a0_2,.string a0_3]] w fun e w'=>e = .returned (.bool r)∧Below w.heap.size w w':=by
 have HV_:=a0_ hv_;clear hv_;have hu45:=Tryz.underlying45;have HB:=a0_ (Below.refl w.heap.size w);have H:=h;clear h;unfold ek.f at H;obtain⟨g3,A2,H⟩:=ob_ H;obtain rfl:=Option.some.inj H;go_enter Tryz.func136,Tryz.ntmps136;go_wp2_with (first|((with_reducible refine ax (N:=1) rfl ?_);refine cm 1 #[.string a0_0,.int .i64 a0_1,.int .i64 a0_2,.string a0_3] 45 (fun g1 hg w3 hbox hb=>?_);have g0:=a0_ (hbox);have g2:=a0_ (gw_ hg:w.heap.size≤g1);replace HB:=a0_ (aa ay hb);have g4:=g2;clear hb hbox hg;obtain⟨_,_,_,_,_,_,_,_⟩:=cY g0.out)|((with_reducible refine gt_ 29 rfl ?_);refine gs_ 4 Tryz.func29 #[.agg #[.string a0_0,.int .i64 a0_1,.int .i64 a0_2,.string a0_3]] ?_;(with_reducible refine(bW.c k a0_0 a0_1 a0_2 a0_3 g3 _ A2.out).mono ?_);rintro e w5 ⟨rfl,hb⟩;refine⟨_,rfl,?_⟩;replace g0:=a0_ (bq g0 hb);replace HB:=a0_ (aa aD hb);clear hb));go_ret;exact⟨rr_,aD⟩
end Go.Proofs.YtiegkjimpclmaaaGreatDoor.P
