/- FnCutTo: part 14 of 17 of my texts for this claim, joined; the theorem stands in the last. Conditions: none beyond the statement's. -/
import Derived.Test.YtiegkjimpclmaaaGreatDoorMFnCutTox12
open Go.RowKit Go.Proofs.YtiegkjimpclmaaaGreatDoorW.PrintWords Go.Proofs.YtiegkjimpclmaaaGreatDoorW.PrintLast Go.Proofs.YtiegkjimpclmaaaGreatDoorW.PrintMore
set_option linter.unusedVariables false
set_option linter.unusedSimpArgs false
set_option maxHeartbeats 8000000
set_option maxRecDepth 100000
namespace Go.Proofs.YtiegkjimpclmaaaGreatDoor.Pure
open Go.Proofs.YtiegkjimpclmaaaGreatDoor.P
theorem sB(n:Int): Ev (fun k=>aW.f k n 3) (strOfNums [n / 65536%256,n / 256%256,n%256]):=by
 refine Ev.of (fun k=>aW.m _ _ _) (k:=4) ?_
 show aW.f 4 n 3=_;simp[aW.f,aW.l0,wrap64,shr,IntKind.bits]
theorem sE(n:Int): Ev (fun k=>am.f k n 3) (strOfNums [n / 65536%256,n / 256%256,n%256]):=by
 refine Ev.of (fun k=>am.m _ _ _) (k:=4) ?_
 show am.f 4 n 3=_;simp[am.f,am.l0,wrap64,Int.ediv_ediv_of_nonneg]
theorem jA{n c:Int}{k:Nat}{t:ByteArray}(h:aW.f k n c=some t): (c=1∨c=2∨c=4)→t.size≤4∧(c=1→t.size=1):=by
 have e:Ev (fun k=>aW.f k n c) t:=Ev.of (fun k=>aW.m _ _ _) h;rintro(rfl|rfl|rfl)
 ·rw[Ev.unique e (kJ n),strOfNums_size];exact⟨by simp,fun _=>rfl⟩
 ·rw[Ev.unique e (qV n),strOfNums_size];exact⟨by simp,fun h=>absurd h (by decide)⟩
 ·rw[Ev.unique e (sl n),strOfNums_size];exact⟨by simp,fun h=>absurd h (by decide)⟩
theorem pS: ∀ (k:Nat) (parts:List ByteArray) (out:ByteArray) (i:Nat) (r:ByteArray×Bool),ap.l0 k parts out (i:Int)=some r→r.2=true→i≤parts.length→parts.length<1099511627776→r.1.size≤out.size+(parts.length-i)
 | 0,parts,out,i,r,h,h2,hi,hl=>by simp[ap.l0]at h
 | k+1,parts,out,i,r,h,h2,hi,hl=>by
  unfold ap.l0 at h
  by_cases c:(i:Int)<(parts.length:Int)
  · rw [if_pos c, if_pos (by omega)] at h
    obtain⟨b,hb,h⟩:=Option.bind_eq_some_iff.mp h
    by_cases c2:b.2=true
    · rw [if_pos c2] at h
      by_cases c4:(parts.length:Int)=4
      · rw [if_pos c4] at h
        obtain⟨t,ht,h⟩:=Option.bind_eq_some_iff.mp h;have hz:=(jA ht (.inl rfl)).2 rfl
        by_cases c5:out.size+t.size≤9223372036854775807
        · rw [if_pos c5, d_ (by omega)] at h
          have:=pS k parts (out++t) (i+1) r h h2 (by omega) hl;rw[ByteArray.size_append]at this;omega
        ·rw[if_neg c5]at h;cases h
      · rw [if_neg c4] at h
        obtain rfl:=Option.some.inj h;cases h2
    · rw [if_neg c2] at h
      obtain rfl:=Option.some.inj h;cases h2
  · rw [if_neg c] at h
    obtain rfl:=Option.some.inj h;show out.size≤_;omega
theorem nQ{k:Nat}{s lb:ByteArray}(ht:dn.f s=some true)(h:aT.f k s=some lb): lb.size≤100:=by
 have e:Ev (fun k=>aT.f k s) lb:=Ev.of (fun k=>aT.m _ _) h;have hg:=gh (Option.some.inj ((fb s).symm.trans ht));obtain⟨r,g1,_,g3⟩:=nU s hg;have hz:=ec hg;rw[← aU]at hz;rw[Ev.unique e g1,g3]
 split<;>omega
theorem qk{k:Nat}{kind:Int}{s x:ByteArray}(hs:s.size≤1048576)(h:ap.f k kind s=some (x,true)): x.size≤1100000:=by
 unfold ap.f at h
 by_cases c1:kind=1
 · rw [if_pos c1] at h
   have hsp:cM.f s (⟨#[46]⟩:ByteArray)=some ((bC 46 s.data.toList).map mkB):=by
    unfold cM.f;rw[if_pos (show(⟨#[46]⟩:ByteArray).size=1 from rfl),if_pos (by omega)];rfl
   rw[hsp,Option.bind_some]at h
   have hlen:(bC 46 s.data.toList).length≤s.size+1:=by rw[aU];exact eU _ _
   have:=pS k _ _ 0 _ h rfl (Nat.zero_le _) (by rw[List.length_map];omega);rw[List.length_map]at this;have h0:(⟨#[]⟩:ByteArray).size=0:=rfl;dsimp only at this;omega
 · rw [if_neg c1] at h
   by_cases c2:kind=2∨kind=5
   · rw [if_pos c2] at h
     unfold gR at h;obtain⟨t,ht,h⟩:=Option.bind_eq_some_iff.mp h
     cases t with
     | false=>cases (Prod.mk.inj (Option.some.inj h)).2
     | true=>
      rw[if_pos rfl]at h;obtain⟨lb,hlb,h⟩:=Option.bind_eq_some_iff.mp h;have:=nQ ht hlb;rw[if_pos (by omega)]at h;obtain rfl:=(Prod.mk.inj (Option.some.inj h)).1;rw[ByteArray.size_append];show _+1≤_;omega
   · rw [if_neg c2] at h
     by_cases c6:kind=6
     · rw [if_pos c6] at h
       unfold fR at h;obtain⟨b,hb,h⟩:=Option.bind_eq_some_iff.mp h
       by_cases hb2:b.2=true
       · rw [if_pos hb2] at h
         obtain⟨t,ht,h⟩:=Option.bind_eq_some_iff.mp h;obtain rfl:=(Prod.mk.inj (Option.some.inj h)).1;have:=(jA ht (.inr (.inr rfl))).1;omega
       · rw [if_neg hb2] at h
         cases (Prod.mk.inj (Option.some.inj h)).2
     · rw [if_neg c6] at h
       by_cases g0:kind=15
       · rw [if_pos g0] at h
         unfold gz at h;obtain⟨q,hc,h⟩:=Option.bind_eq_some_iff.mp h;obtain⟨b,hb,h⟩:=Option.bind_eq_some_iff.mp h
         by_cases hb2:b.2=true
         · rw [if_pos hb2] at h
           obtain⟨t,ht,h⟩:=Option.bind_eq_some_iff.mp h
           cases t with
           | false=>cases (Prod.mk.inj (Option.some.inj h)).2
           | true=>
            rw[if_pos rfl]at h;obtain⟨g,hg,h⟩:=Option.bind_eq_some_iff.mp h;obtain⟨lb,hlb,h⟩:=Option.bind_eq_some_iff.mp h;have h1:=nQ ht hlb;have h2:=(jA hg (.inr (.inl rfl))).1;rw[if_pos (by omega),if_pos (by omega)]at h;obtain rfl:=(Prod.mk.inj (Option.some.inj h)).1;rw[ByteArray.size_append,ByteArray.size_append];show _+1≤_;omega
         · rw [if_neg hb2] at h
           cases (Prod.mk.inj (Option.some.inj h)).2
       · rw [if_neg g0] at h
         by_cases g1:kind=16
         · rw [if_pos g1] at h
           unfold fA at h
           by_cases h30:(s.size:Int)>30
           · rw [if_pos h30] at h
             cases (Prod.mk.inj (Option.some.inj h)).2
           · rw [if_neg h30] at h
             split at h
             ·cases (Prod.mk.inj (Option.some.inj h)).2
             · obtain ⟨t, ht, h⟩ := Option.bind_eq_some_iff.mp h
               have h2:=(jA ht (.inl rfl)).1;rw[if_pos (by omega)]at h;obtain rfl:=(Prod.mk.inj (Option.some.inj h)).1;rw[ByteArray.size_append];omega
         · rw [if_neg g1] at h
           cases (Prod.mk.inj (Option.some.inj h)).2
def GdR(r:da): Prop:=(dG r.f0∧dG r.f3)∧Ev (fun k=>bW.f k r.f0 r.f1 r.f2 r.f3) true
theorem qW{r:da}(h:GdR r): ∃ x:ByteArray,x.size≤1100000∧Ev (fun k=>ag.f k r.f1 r.f3) (x,true)∧Ev (fun k=>ez.f k r.f1 r.f3) x:=by
 obtain⟨x,x1,x2⟩:=iq r.f1 r.f3 r.f0 r.f2 h.1.1 h.1.2 h.2;obtain⟨K,hK⟩:=id x2;exact⟨x,qk h.1.2 (hK K (Nat.le_refl _)),x1,Ev.congr (fun k=>rfl) (Ev.bind x2 (Ev.now _))⟩
theorem st{n:Nat}(h:n<4611686018427387904): wrap64 ((n:Int)+1)=((n+1:Nat):Int):=by unfold wrap64;omega
theorem ki(L:List da)(hL:L.length≤30)(hg:∀ r∈L,GdR r)(T0:ByteArray)(hT:T0.size≤10)(id:Int)(re cu:Bool)(co:Int)(nm:ByteArray)(ty x3:Int)(l6 l7:List da): ∀ (m i:Nat) (ns:List ByteArray) (u:ByteArray),i+m=L.length→ns.length≤i+1→u.size≤1200000*i →
 ∃ e:ByteArray,(u++e).size≤36000000 ∧
  (∀ R,Ev (fun k=>ar.l0 k x3 (ns++(L.drop i).map fun r=>r.f0) (T0++(u++e)) L (L.length:Int) (L.length:Int) id re cu co nm ty l6 l7) R→Ev (fun k=>ar.l0 k x3 ns (T0++u) L (L.length:Int) (i:Int) id re cu co nm ty l6 l7) R) ∧
  (∀ R,Ev (fun k=>ai.l0 k (ns++(L.drop i).map fun r=>r.f0) (u++e) L (L.length:Int) (L.length:Int) id re cu co nm ty l6 l7) R→Ev (fun k=>ai.l0 k ns u L (L.length:Int) (i:Int) id re cu co nm ty l6 l7) R)
 | 0,i,ns,u,hi,hn,hu=>by
  have hi:i=L.length:=by omega
  refine⟨ByteArray.empty,?_,?_,?_⟩
  ·rw[ByteArray.append_empty];omega
  · rw [List.drop_of_length_le (by omega), List.map_nil, List.append_nil, ByteArray.append_empty, hi]
    exact fun R h=>h
  · rw [List.drop_of_length_le (by omega), List.map_nil, List.append_nil, ByteArray.append_empty, hi]
    exact fun R h=>h
 | m+1,i,ns,u,hi,hn,hu=>by
  have hlt:i<L.length:=by omega
  obtain⟨x,hx,x1,x2⟩:=qW (hg _ (List.getElem_mem hlt))
  have s1:∀ v:Int,(strOfNums [v]).size=1:=fun v=>by rw[strOfNums_size];rfl
  have s3:∀ a b c:Int,(strOfNums [a,b,c]).size=3:=fun a b c=>by rw[strOfNums_size];rfl
  let c:ByteArray:=((strOfNums [L[i].f1%256]++strOfNums [L[i].f2 / 65536%256,L[i].f2 / 256%256,L[i].f2%256])++strOfNums [(x.size:Int)%256])++x
  have hc:c.size=5+x.size:=by
   show(((strOfNums _++strOfNums _)++strOfNums _)++x).size=_;rw[ByteArray.size_append,ByteArray.size_append,ByteArray.size_append,s1,s3,s1]
  obtain⟨e,e1,e2,e3⟩:=ki L hL hg T0 hT id re cu co nm ty x3 l6 l7 m (i+1) (ns ++ [L[i].f0]) (u++c) (by omega) (by rw[List.length_append];simp;omega) (by rw[ByteArray.size_append];omega)
  have ed:(ns ++ [L[i].f0])++(L.drop (i+1)).map (fun r=>r.f0)=ns++(L.drop i).map fun r=>r.f0:=by
   rw[List.drop_eq_getElem_cons hlt,List.map_cons,List.append_assoc];rfl
  rw[ed,ByteArray.append_assoc]at e2 e3;rw[ByteArray.append_assoc]at e1;refine⟨c++e,e1,fun R hR=>?_,fun R hR=>?_⟩
  · have h := e2 R hR
    rw[← ByteArray.append_assoc]at h
    refine Ev.step (fun k=>by rw[ar.l0,if_pos (by omega),if_pos (by omega),if_pos (by omega),if_pos (by omega),rdI L i hlt]) ?_
    refine Ev.bind x1 (Ev.bind (mt _) (Ev.bind (sE _) ?_));simp only[if_pos (show(strOfNums [L[i].f1%256]).size+(strOfNums [L[i].f2 / 65536%256,L[i].f2 / 256%256,L[i].f2%256]).size≤9223372036854775807 by rw[s1,s3];omega)]
    refine Ev.bind (mt _) ?_
    simp only[ByteArray.size_append,s1,s3];simp only[if_pos (show 1+3+1≤9223372036854775807 by omega),if_pos (show 1+3+1+x.size≤9223372036854775807 by omega),if_pos (show T0.size+u.size+(1+3+1+x.size)≤9223372036854775807 by omega),st (show i<4611686018427387904 by omega)];exact h
  · have h := e3 R hR
    refine Ev.step (fun k=>by rw[ai.l0,if_pos (by omega),if_pos (by omega),if_pos (by omega),if_pos (by omega),rdI L i hlt]) ?_
    refine Ev.bind x2 (Ev.bind (kJ _) (Ev.bind (sB _) ?_));simp only[if_pos (show(strOfNums [L[i].f1%256]).size+(strOfNums [L[i].f2 / 65536%256,L[i].f2 / 256%256,L[i].f2%256]).size≤9223372036854775807 by rw[s1,s3];omega)]
    refine Ev.bind (kJ _) ?_
    simp only[ByteArray.size_append,s1,s3];simp only[if_pos (show 1+3+1≤9223372036854775807 by omega),if_pos (show 1+3+1+x.size≤9223372036854775807 by omega),if_pos (show u.size+(1+3+1+x.size)≤9223372036854775807 by omega),st (show i<4611686018427387904 by omega)];exact h
def gU(re cu:Bool): Int:=if re=true then(if cu=true then 129 else 128)else(if cu=true then 1 else 0)
theorem om(id:Int)(re cu:Bool)(co:Int)(nm:ByteArray)(ty:Int)(l6 l7:List da){R:ByteArray}(h:Ev (fun k=>ar.j1 k (gU re cu) id re cu co nm ty l6 l7) R): Ev (fun k=>ar.f k id re cu co nm ty l6 l7) R:=by
 have e1:Go.bits .or .i64 0 128=128:=by decide
 have e2:Go.bits .or .i64 128 1=129:=by decide
 have e3:Go.bits .or .i64 0 1=1:=by decide
 have hj:∀ x:Int,Ev (fun k=>ar.j1 k (if cu=true then Go.bits .or .i64 x 1 else x) id re cu co nm ty l6 l7) R→Ev (fun k=>ar.j0 k x id re cu co nm ty l6 l7) R:=fun x hx=>by
  refine Ev.step (fun k=>?_) hx;rw[ar.j0]
  cases cu<;>rfl
 unfold ar.f gU at *
 cases re with
 | true=>
  simp only[if_true]at h ⊢;rw[e1]
  refine hj _ ?_
  rw[e2];exact h
 | false=>
  simp only[Bool.false_eq_true,if_false]at h ⊢
  refine hj _ ?_
  rw[e3];exact h
theorem oG(x6 g0:ByteArray)(id:Int)(re cu:Bool)(co:Int)(nm:ByteArray)(ty:Int)(l6 l7:List da){R:ByteArray×Bool}(h:Ev (fun k=>ai.j2 k x6 g0 (gU re cu) id re cu co nm ty l6 l7) R): Ev (fun k=>if re=true then(ai.j1 k x6 g0 128 id re cu co nm ty l6 l7)else(ai.j1 k x6 g0 0 id re cu co nm ty l6 l7)) R:=by
 have e2:wrap64 (128+1)=129:=by unfold wrap64;omega
 have e3:wrap64 (0+1)=1:=by unfold wrap64;omega
 have hj:∀ x:Int,Ev (fun k=>ai.j2 k x6 g0 (if cu=true then wrap64 (x+1)else x) id re cu co nm ty l6 l7) R→Ev (fun k=>ai.j1 k x6 g0 x id re cu co nm ty l6 l7) R:=fun x hx=>by
  refine Ev.step (fun k=>?_) hx;rw[ai.j1]
  cases cu<;>rfl
 unfold gU at h
 cases re with
 | true=>
  simp only[if_true]at h ⊢
  refine hj _ ?_
  rw[e2];exact h
 | false=>
  simp only[Bool.false_eq_true,if_false]at h ⊢
  refine hj _ ?_
  rw[e3];exact h
theorem mM(id:Int)(re cu:Bool)(co:Int)(nm:ByteArray)(ty:Int)(l6 l7:List da)(hn:cO nm.data.toList=true)(h6:l6.length≤12)(h7:l7.length≤12)(g6:∀ r∈l6,GdR r)(g7:∀ r∈l7,GdR r):
 ∃ (B b:ByteArray) (ok:Bool),Ev (fun k=>ar.f k id re cu co nm ty l6 l7) B∧Ev (fun k=>ai.f k id re cu co nm ty l6 l7) (b,ok)∧(ok=true→b=B)∧(ok=false→600<B.size):=by
 have hL:(l6++l7).length≤24:=by rw[List.length_append];omega
 have hg:∀ r∈l6++l7,GdR r:=fun r hr=>(List.mem_append.1 hr).elim (g6 r) (g7 r)
 have s1:∀ v:Int,(strOfNums [v]).size=1:=fun v=>by rw[strOfNums_size];rfl
 have s2:∀ a b:Int,(strOfNums [a,b]).size=2:=fun a b=>by rw[strOfNums_size];rfl
 obtain⟨e,e1,e2,e3⟩:=ki (l6++l7) (by omega) hg (strOfNums [ty%256]) (by rw[s1];omega) id re cu co nm ty (gU re cu) l6 l7 (l6++l7).length 0 [nm] ByteArray.empty (by omega) (by simp) (Nat.zero_le _);rw[List.drop_zero]at e2 e3;have ee:ByteArray.empty++e=e:=ByteArray.empty_append;rw[ee]at e1 e2 e3
 obtain⟨r,r1,r2,r3⟩:=mT ([nm]++(l6++l7).map fun r=>r.f0) (by rw[List.length_append,List.length_map];simp only[List.length_singleton];omega) (fun x hx=>by
  rcases List.mem_append.1 hx with hx|hx
  ·rw[List.mem_singleton.1 hx];exact hn
  · obtain ⟨q, hq, rfl⟩ := List.mem_map.1 hx
    have hG:=hg q hq
    exact(ik q.f0 q.f1 q.f2 q.f3 hG.1.1 hG.1.2 hG.2).2.1)
 let H:ByteArray:=strOfNums [id / 256%256,id%256]++strOfNums [gU re cu%256]++strOfNums [co%256]++strOfNums [(l6.length:Int)%256]++strOfNums [(l7.length:Int)%256]++strOfNums [(r.size:Int) / 256%256,(r.size:Int)%256]
 have hS:Ev (fun k=>ar.f k id re cu co nm ty l6 l7) ((H++r)++(strOfNums [ty%256]++e)):=by
  refine om id re cu co nm ty l6 l7 ?_
  refine Ev.step (fun k=>by rw[ar.j1,Option.bind_some,if_pos (by simp;omega),Option.bind_some,if_pos (by simp;omega),Option.bind_some,List.nil_append]) ?_
  refine Ev.bind (mt _) ?_
  have:=e2 ((H++r)++(strOfNums [ty%256]++e)) ?_
  · rw [ByteArray.append_empty] at this
    exact this
  · refine Ev.step (fun k => by rw [ar.l0, if_neg (by omega)]) ?_
    refine Ev.bind r1 (Ev.bind (rp _) (Ev.bind (mt _) ?_));simp only[ByteArray.size_append,s1,s2];simp only[if_pos (show 2+1≤9223372036854775807 by omega)]
    refine Ev.bind (mt _) ?_
    simp only[s1,if_pos (show 2+1+1≤9223372036854775807 by omega)]
    refine Ev.bind (mt _) ?_
    simp only[s1,if_pos (show 2+1+1+1≤9223372036854775807 by omega)]
    refine Ev.bind (mt _) ?_
    simp only[s1,if_pos (show 2+1+1+1+1≤9223372036854775807 by omega)]
    refine Ev.bind (rp _) ?_
    simp only[s2,if_pos (show 2+1+1+1+1+2≤9223372036854775807 by omega),if_pos (show 2+1+1+1+1+2+r.size≤9223372036854775807 by omega),if_pos (show 2+1+1+1+1+2+r.size+(1+e.size)≤9223372036854775807 by omega)];exact Ev.now _
 have hc:∀ k,ai.f k id re cu co nm ty l6 l7=ai.l0 k [nm] ByteArray.empty (l6++l7) ((l6++l7).length:Int) 0 id re cu co nm ty l6 l7:=fun k=>by
  unfold ai.f dJ.f
  first|rfl|(rw[if_pos (by omega)];rfl)
 by_cases hr:r.size≤600
 · rw [if_pos hr] at r3
   refine⟨_,((H++r)++strOfNums [ty%256])++e,true,hS,Ev.congr hc (e3 _ ?_),fun _=>?_,fun h=>by cases h⟩
   · refine Ev.step (fun k => by rw [ai.l0, if_neg (by omega)]) ?_
     refine Ev.bind r3 ?_
     simp only[if_true]
     refine oG e r id re cu co nm ty l6 l7 ?_
     refine Ev.step (fun k=>by rw[ai.j2]) ?_
     refine Ev.bind (qV _) (Ev.bind (kJ _) ?_);simp only[ByteArray.size_append,s1,s2];simp only[if_pos (show 2+1≤9223372036854775807 by omega)]
     refine Ev.bind (kJ _) ?_
     simp only[s1,if_pos (show 2+1+1≤9223372036854775807 by omega)]
     refine Ev.bind (kJ _) ?_
     simp only[s1,if_pos (show 2+1+1+1≤9223372036854775807 by omega)]
     refine Ev.bind (kJ _) ?_
     simp only[s1,if_pos (show 2+1+1+1+1≤9223372036854775807 by omega)]
     refine Ev.bind (qV _) ?_
     simp only[s2,if_pos (show 2+1+1+1+1+2≤9223372036854775807 by omega),if_pos (show 2+1+1+1+1+2+r.size≤9223372036854775807 by omega)]
     refine Ev.bind (kJ _) ?_
     simp only[s1,if_pos (show 2+1+1+1+1+2+r.size+1≤9223372036854775807 by omega),if_pos (show 2+1+1+1+1+2+r.size+1+e.size≤9223372036854775807 by omega)];exact Ev.now _
   ·rw[← ByteArray.append_assoc]
 · rw [if_neg hr] at r3
   refine⟨_,(⟨#[]⟩:ByteArray),false,hS,Ev.congr hc (e3 _ ?_),(fun h=>by cases h),fun _=>?_⟩
   · refine Ev.step (fun k => by rw [ai.l0, if_neg (by omega)]) ?_
     refine Ev.bind r3 ?_
     simp only[Bool.false_eq_true,if_false];exact Ev.now _
   · rw [ByteArray.size_append, ByteArray.size_append]
     omega
end Go.Proofs.YtiegkjimpclmaaaGreatDoor.Pure
