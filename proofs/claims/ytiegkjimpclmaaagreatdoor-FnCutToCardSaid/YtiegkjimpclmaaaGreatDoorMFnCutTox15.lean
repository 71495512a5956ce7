/- FnCutTo: part 16 of 17 of my texts for this claim, joined; the theorem stands in the last. Conditions: none beyond the statement's. -/
import Derived.Test.YtiegkjimpclmaaaGreatDoorMFnCutTox13
import Derived.Test.YtiegkjimpclmaaaGreatDoorMFnCutTox14
open Go.RowKit Go.Proofs.YtiegkjimpclmaaaGreatDoorW.PrintWords Go.Proofs.YtiegkjimpclmaaaGreatDoorW.PrintLast Go.Proofs.YtiegkjimpclmaaaGreatDoorW.PrintMore
set_option linter.unusedVariables false
set_option linter.unusedSimpArgs false
set_option maxHeartbeats 8000000
set_option maxRecDepth 100000
namespace Go.Proofs.YtiegkjimpclmaaaGreatDoor.Pure
open Go.Proofs.YtiegkjimpclmaaaGreatDoor.P
abbrev ix:=S83
def SmR(r:da): Prop:=dG r.f0∧dG r.f3
def SSm(n:Nat)(s:ix): Prop:=s.f3.length≤n∧dG s.f0∧∀ d∈s.f3,dG d
theorem sm{n:Nat}(h:n<4611686018427387904): wrap64 (((n+1:Nat):Int)-1)=(n:Int):=by unfold wrap64;omega
theorem sn(l:List ix)(i:Nat)(h:i<l.length): ao l (i:Int)=l[i]:=by
 simp only[ao,bn,Int.toNat_natCast,List.getD_eq_getElem?_getD,List.getElem?_eq_getElem h,Option.getD_some]
theorem pt{q r:da}(hq:GdR q)(hr:GdR r): ∃ t,Ev (fun k=>dl.f k q.f0 q.f1 q.f2 q.f3 r.f0 r.f1 r.f2 r.f3) t:=by
 obtain⟨x,x1,x2⟩:=iq q.f1 q.f3 q.f0 q.f2 hq.1.1 hq.1.2 hq.2;obtain⟨y,y1,y2⟩:=iq r.f1 r.f3 r.f0 r.f2 hr.1.1 hr.1.2 hr.2;obtain⟨_,p,_⟩:=ik q.f0 q.f1 q.f2 q.f3 hq.1.1 hq.1.2 hq.2;obtain⟨_,p',_⟩:=ik r.f0 r.f1 r.f2 r.f3 hr.1.1 hr.1.2 hr.2;exact⟨_,mV _ _ _ _ _ _ _ _ _ _ hq.1.1 hr.1.1 p p' x1 y1⟩
theorem qZ{r:da}(h:SmR r): ∃ b,Ev (fun k=>cf.f k r.f0 r.f1 r.f2 r.f3) b∧(b=true→GdR r):=by
 obtain⟨b,q,r1,r2,_⟩:=fj r.f0 r.f1 r.f2 r.f3 h.1 h.2;exact⟨b,r1,fun e=>⟨h,e▸r2⟩⟩
theorem pM(l:List da)(r:da)(hl:l.length<1099511627776)(i:Nat)(hi:i≤l.length)(b:Bool): ∃ t,Ev (fun k=>aY.j2 k l (i:Int) b r.f0 r.f1 r.f2 r.f3) t∧t.length≤l.length+1∧∀ y∈t,y∈l∨y=r:=by
 cases b with
 | true=>exact⟨l,Ev.step (f:=fun _=>some l) (fun k=>rfl) (Ev.now _),by omega,fun y hy=> .inl hy⟩
 | false=>
  have h1:(l.take i).length≤i:=by rw[List.length_take];omega
  have h2:(l.drop i).length≤l.length:=by rw[List.length_drop];omega
  refine⟨l.take i ++ [r]++l.drop i,Ev.step (f:=fun _=>some (l.take i ++ [r]++l.drop i)) (fun k=>?_) (Ev.now _),by simp;omega,fun y hy=>?_⟩
  ·rw[aY.j2,if_neg (by decide),if_pos (by omega),if_pos (by omega),Option.bind_some,Int.toNat_natCast,if_pos (by simp only[List.length_nil];omega),Option.bind_some,List.nil_append,if_pos (by omega),Option.bind_some,Option.bind_some,if_pos (by simp only[List.length_append,List.length_cons,List.length_nil];omega)]
  · simp only [List.mem_append, List.mem_singleton] at hy
    rcases hy with(hy|hy)|hy
    ·exact .inl (List.mem_of_mem_take hy)
    ·exact .inr hy
    ·exact .inl (List.mem_of_mem_drop hy)
theorem ma(l:List da)(r:da)(hr:GdR r)(hG:∀ y∈l,GdR y)(hl:l.length<1099511627776): ∀ (m i:Nat),i+m=l.length→∃ t,Ev (fun k=>aY.l0 k l (i:Int) r.f0 r.f1 r.f2 r.f3) t∧t.length≤l.length+1∧∀ y∈t,y∈l∨y=r
 | 0,i,hi=>by
  obtain⟨t,t1,t2⟩:=pM l r hl i (by omega) false;refine⟨t,Ev.step (f:=fun k=>aY.j1 k l (i:Int) false r.f0 r.f1 r.f2 r.f3) (fun k=>?_) (Ev.step (fun k=>?_) t1),t2⟩
  ·rw[aY.l0,if_neg (by omega)]
  ·rw[aY.j1,if_neg (by decide),if_neg (by omega)]
 | m+1,i,hi=>by
  have hlt:i<l.length:=by omega
  obtain⟨u,hu⟩:=pt (hG l[i] (List.getElem_mem hlt)) hr
  have e0:∀ k,aY.l0 (k+1) l (i:Int) r.f0 r.f1 r.f2 r.f3=(dl.f k l[i].f0 l[i].f1 l[i].f2 l[i].f3 r.f0 r.f1 r.f2 r.f3).bind fun t=>(aY.j1 k l (i:Int) (decide (t<0)) r.f0 r.f1 r.f2 r.f3):=fun k=>by
   rw[aY.l0,if_pos (by omega),if_pos (by omega),rdI l i hlt]
  cases hc:decide (u<0)with
  | true=>
   obtain⟨t,t1,t2⟩:=ma l r hr hG hl m (i+1) (by omega);refine⟨t,Ev.step e0 (Ev.bind hu ?_),t2⟩;rw[hc];refine Ev.step (fun k=>?_) t1;rw[aY.j1,if_pos rfl,d_ (by omega)]
  | false=>
   obtain⟨t,t1,t2⟩:=pM l r hl i (by omega) ((l[i].f0.toList==r.f0.toList)&&((l[i].f1==r.f1)&&((l[i].f2==r.f2)&&(l[i].f3.toList==r.f3.toList))));refine⟨t,Ev.step e0 (Ev.bind hu ?_),t2⟩;rw[hc];refine Ev.step (fun k=>?_) t1;rw[aY.j1,if_neg (by decide),if_pos (by omega),if_pos (by omega),rdI l i hlt]
theorem lJ(all:List da)(hl:all.length<1099511627776)(ha:∀ r∈all,SmR r): ∀ (m i:Nat) (acc:List ix),i+m=all.length→acc.length≤i→(∀ s∈acc,SSm i s)→∃ S b,Ev (fun k=>av.l0 k acc all (all.length:Int) (i:Int)) (S,b)∧S.length≤all.length∧∀ s∈S,SSm all.length s
 | 0,i,acc,hi,hc,hs=>by
  refine⟨acc,decide ((acc.length:Int)≤40),Ev.step (f:=fun _=>some (acc,decide ((acc.length:Int)≤40))) (fun k=>?_) (Ev.now _),by omega,fun s h=>⟨by have:=(hs s h).1;omega,(hs s h).2⟩⟩;show av.l0 (k+1) acc all (all.length:Int) (i:Int)=_;rw[av.l0,if_neg (by omega)]
 | m+1,i,acc,hi,hc,hs=>by
  have hlt:i<all.length:=by omega
  have hr:=ha all[i] (List.getElem_mem hlt);have hw:wrap64 ((i:Int)+1)=((i+1:Nat):Int):=d_ (by omega)
  have up:∀ s∈acc,SSm (i+1) s:=fun s h=>⟨by have:=(hs s h).1;omega,(hs s h).2⟩
  have hnew:∀ x7:Int,∃ S b,Ev (fun k=>av.j1 k acc x7 all (all.length:Int) (i:Int) false all[i].f0 all[i].f1 all[i].f2 all[i].f3) (S,b)∧S.length≤all.length∧∀ s∈S,SSm all.length s:=by
   intro x7
   obtain⟨S,b,h1,h2⟩:=lJ all hl ha m (i+1) (acc ++ [(⟨all[i].f0,all[i].f1,all[i].f2,[all[i].f3]⟩:ix)]) (by omega) (by simp;omega) (fun s h=>by
    rcases List.mem_append.1 h with h|h
    ·exact up s h
    ·rw[List.mem_singleton.1 h];exact⟨by simp,hr.1,fun d hd=>by rw[List.mem_singleton.1 hd];exact hr.2⟩)
   refine⟨S,b,Ev.step (fun k=>?_) h1,h2⟩;show(if acc.length<2513169434916 then(av.l0 k (acc ++ [(⟨all[i].f0,all[i].f1,all[i].f2,[all[i].f3]⟩:ix)]) all (all.length:Int) (wrap64 ((i:Int)+1)))else none)=_;rw[if_pos (by omega),hw]
  have e0:∀ k,av.l0 (k+1) acc all (all.length:Int) (i:Int)=(if(wrap64 ((acc.length:Int)-1))≥0 then(if 0≤(wrap64 ((acc.length:Int)-1))then(if(wrap64 ((acc.length:Int)-1))<(acc.length:Int)then(if((ao acc (wrap64 ((acc.length:Int)-1))).f0).toList=all[i].f0.toList then(av.j1 k acc (wrap64 ((acc.length:Int)-1)) all (all.length:Int) (i:Int) (((ao acc (wrap64 ((acc.length:Int)-1))).f1)==all[i].f1) all[i].f0 all[i].f1 all[i].f2 all[i].f3)else(av.j1 k acc (wrap64 ((acc.length:Int)-1)) all (all.length:Int) (i:Int) false all[i].f0 all[i].f1 all[i].f2 all[i].f3))else(none))else(none))else(av.j1 k acc (wrap64 ((acc.length:Int)-1)) all (all.length:Int) (i:Int) false all[i].f0 all[i].f1 all[i].f2 all[i].f3)):=fun k=>by
   rw[av.l0,if_pos (by omega),if_pos (by omega),if_pos (by omega),rdI all i hlt]
  by_cases hz:acc.length=0
  · have hww : wrap64 ((acc.length : Int) - 1) = -1 := by rw [hz]; unfold wrap64; omega
    obtain⟨S,b,h1,h2⟩:=hnew (-1);refine⟨S,b,Ev.step e0 ?_,h2⟩;simp only[hww,if_neg (show ¬ ((-1:Int)≥0) by omega)];exact h1
  · obtain ⟨n, hn⟩ : ∃ n, acc.length = n + 1 := ⟨acc.length - 1, by omega⟩
    have hww:wrap64 ((acc.length:Int)-1)=(n:Int):=by rw[hn,sm (by omega)]
    have hrd:=sn acc n (by omega);have hq:=hs _ (List.getElem_mem (show n<acc.length by omega))
    have hsame:∃ S b,Ev (fun k=>av.j1 k acc (n:Int) all (all.length:Int) (i:Int) true all[i].f0 all[i].f1 all[i].f2 all[i].f3) (S,b)∧S.length≤all.length∧∀ s∈S,SSm all.length s:=by
     have e1:∀ k,av.j1 (k+1) acc (n:Int) all (all.length:Int) (i:Int) true all[i].f0 all[i].f1 all[i].f2 all[i].f3=(if 0≤(n:Int)then(if(n:Int)<(acc.length:Int)then(if((ao acc (n:Int)).f2)=all[i].f2 then(if((ao acc (n:Int)).f3).length<8796093022208 then(av.l0 k (acc.set (n:Int).toNat (⟨(ao acc (n:Int)).f0,(ao acc (n:Int)).f1,(ao acc (n:Int)).f2,(((ao acc (n:Int)).f3) ++ [all[i].f3])⟩:ix)) all (all.length:Int) (wrap64 ((i:Int)+1)))else(none))else(some (([]:List ix),false)))else(none))else(none)):=fun k=>rfl
     simp only[hrd,if_pos (show(0:Int)≤(n:Int) by omega),if_pos (show(n:Int)<(acc.length:Int) by omega),if_pos (show acc[n].f3.length<8796093022208 by have:=hq.1;omega),hw,Int.toNat_natCast]at e1
     by_cases h2:acc[n].f2=all[i].f2
     · obtain⟨S,b,r1,r2⟩:=lJ all hl ha m (i+1) (acc.set n (⟨acc[n].f0,acc[n].f1,acc[n].f2,acc[n].f3 ++ [all[i].f3]⟩:ix)) (by omega) (by rw[List.length_set];omega) (fun s h=>by
        rcases List.mem_or_eq_of_mem_set h with h|rfl
        ·exact up s h
        · refine ⟨?_, hq.2.1, fun d hd => ?_⟩
          · show (acc[n].f3 ++ [all[i].f3]).length ≤ i + 1
            have:=hq.1
            simp;omega
          · rcases List.mem_append.1 hd with hd | hd
            ·exact hq.2.2 d hd
            ·rw[List.mem_singleton.1 hd];exact hr.2)
       refine⟨S,b,Ev.step e1 ?_,r2⟩;simp only[if_pos h2];exact r1
     · refine ⟨[], false, Ev.step e1 ?_, Nat.zero_le _, fun s h => by cases h⟩
       simp only[if_neg h2];exact Ev.now _
    have hb:∀ b:Bool,∃ S c,Ev (fun k=>av.j1 k acc (n:Int) all (all.length:Int) (i:Int) b all[i].f0 all[i].f1 all[i].f2 all[i].f3) (S,c)∧S.length≤all.length∧∀ s∈S,SSm all.length s:=fun b=>by
     cases b with
     | true=>exact hsame
     | false=>exact hnew _
    simp only[hww,hrd,if_pos (show(n:Int)≥0 by omega),if_pos (show(0:Int)≤(n:Int) by omega),if_pos (show(n:Int)<(acc.length:Int) by omega)]at e0
    by_cases h0:acc[n].f0.toList=all[i].f0.toList
    · simp only [if_pos h0] at e0
      obtain⟨S,c,r1,r2⟩:=hb (acc[n].f1==all[i].f1);exact⟨S,c,Ev.step e0 r1,r2⟩
    · simp only [if_neg h0] at e0
      obtain⟨S,c,r1,r2⟩:=hb false;exact⟨S,c,Ev.step e0 r1,r2⟩
theorem ny(all:List da)(hl:all.length<1099511627776)(ha:∀ r∈all,SmR r): ∃ S b,Ev (fun k=>av.f k all) (S,b)∧S.length≤all.length∧∀ s∈S,SSm all.length s:=by
 obtain⟨S,b,h1,h2⟩:=lJ all hl ha all.length 0 [] (by omega) (by simp) (fun s h=>by cases h);exact⟨S,b,Ev.congr (fun k=>rfl) h1,h2⟩
theorem nD(l:List da)(hl:l.length≤1048576)(hs:∀ r∈l,SmR r): ∀ (m i:Nat) (acc:List da),i+m=l.length→acc.length≤i→(∀ r∈acc,GdR r)→∃ S b,Ev (fun k=>cP.l0 k l acc l (l.length:Int) (i:Int)) (S,b)∧S.length≤l.length∧∀ s∈S,SSm l.length s
 | 0,i,acc,hi,hc,hG=>by
  obtain⟨S,b,h1,h2,h3⟩:=ny acc (by omega) (fun r hr=>(hG r hr).1)
  have e0:∀ k,cP.l0 (k+1) l acc l (l.length:Int) (i:Int)=(av.f k acc).bind fun t=>(if t.2=true then(if(l.length:Int)>60 then(some (([]:List ix),false))else(some (t.1,true)))else(some (([]:List ix),false))):=fun k=>by
   rw[cP.l0,if_neg (by omega)]
  by_cases hx:b=true∧¬ (l.length:Int)>60
  · refine ⟨S, true, Ev.step e0 (Ev.bind h1 ?_), by omega, fun s h => ⟨by have := (h3 s h).1; omega, (h3 s h).2⟩⟩
    simp only[if_pos hx.1,if_neg hx.2];exact Ev.now _
  · refine ⟨[], false, Ev.step e0 (Ev.bind h1 ?_), Nat.zero_le _, fun s h => by cases h⟩
    by_cases hb:b=true
    · simp only [if_pos hb, if_pos (Classical.byContradiction fun h => hx ⟨hb, h⟩)]
      exact Ev.now _
    · simp only [if_neg hb]
      exact Ev.now _
 | m+1,i,acc,hi,hc,hG=>by
  have hlt:i<l.length:=by omega
  obtain⟨b,b1,b2⟩:=qZ (hs l[i] (List.getElem_mem hlt))
  have e0:∀ k,cP.l0 (k+1) l acc l (l.length:Int) (i:Int)=(cf.f k l[i].f0 l[i].f1 l[i].f2 l[i].f3).bind fun t=>(if t=true then((aY.f k acc l[i].f0 l[i].f1 l[i].f2 l[i].f3).bind fun u=>(cP.l0 k l u l (l.length:Int) (wrap64 ((i:Int)+1))))else(some (([]:List ix),false))):=fun k=>by
   rw[cP.l0,if_pos (by omega),if_pos (by omega),if_pos (by omega),rdI l i hlt]
  cases b with
  | false=>exact⟨[],false,Ev.step e0 (Ev.bind b1 (Ev.now _)),Nat.zero_le _,fun s h=>by cases h⟩
  | true=>
   obtain⟨t,t1,t2,t3⟩:=ma acc l[i] (b2 rfl) hG (by omega) acc.length 0 (by omega)
   obtain⟨S,c,r1,r2⟩:=nD l hl hs m (i+1) t (by omega) (by omega) (fun r hr=>by
    rcases t3 r hr with h|h
    ·exact hG r h
    ·rw[h];exact b2 rfl)
   refine⟨S,c,Ev.step e0 (Ev.bind b1 ?_),r2⟩;simp only[if_true]
   refine Ev.bind (Ev.congr (fun k=>rfl) t1) ?_
   rw[d_ (by omega)];exact r1
theorem qG(l:List da)(hl:l.length≤1048576)(hs:∀ r∈l,SmR r): ∃ S b,Ev (fun k=>cP.f k l) (S,b)∧S.length≤l.length∧∀ s∈S,SSm l.length s:=by
 obtain⟨S,b,h1,h2⟩:=nD l hl hs l.length 0 [] (by omega) (by simp) (fun s h=>by cases h);exact⟨S,b,Ev.congr (fun k=>rfl) h1,h2⟩
def Few(R:List da×Bool): Prop:=R.1.length≤60∧∀ r∈R.1,SmR r
theorem jB(b:Bool): Few ([],b):=⟨by simp,fun r h=>by cases h⟩
theorem nx(l:List ix)(i:Nat)(a:ByteArray)(b c:Int)(ds:List ByteArray)(hds:ds.length<1000000)(ha:dG a)(hs:∀ z∈ds,dG z): ∀ (m j:Nat) (acc:List da),j+m=ds.length→acc.length+m<1000000000000→(∀ q∈acc,GdR q) →
 (∀ A:List da,A.length≤acc.length+m→(∀ q∈A,GdR q)→∃ R,Ev (fun k=>aq.l0 k l A l (l.length:Int) (wrap64 ((i:Int)+1))) R∧Few R) →
 ∃ R,Ev (fun k=>aq.l1 k l acc l (l.length:Int) (i:Int) ds (ds.length:Int) (j:Int) a b c ds) R∧Few R
 | 0,j,acc,hj,hb,hg,hR=>by
  obtain⟨R,r1,r2⟩:=hR acc (by omega) hg;refine⟨R,Ev.step (fun k=>?_) r1,r2⟩;rw[aq.l1,if_neg (by omega)]
 | m+1,j,acc,hj,hb,hg,hR=>by
  have hlt:j<ds.length:=by omega
  obtain⟨g,g1,g2⟩:=qZ (r:=(⟨a,b,c,ds[j]⟩:da)) ⟨ha,hs _ (List.getElem_mem hlt)⟩
  have hrd:bn ByteArray.empty ds (j:Int)=ds[j]:=by simp only[bn,Int.toNat_natCast,List.getD_eq_getElem?_getD,List.getElem?_eq_getElem hlt,Option.getD_some]
  have e0:=fun k=>show aq.l1 (k+1) l acc l (l.length:Int) (i:Int) ds (ds.length:Int) (j:Int) a b c ds=_ by
   rw[aq.l1,if_pos (by omega),if_pos (by omega),if_pos (by omega),hrd]
  cases g with
  | false=>exact⟨([],false),Ev.step e0 (Ev.bind g1 (Ev.now _)),jB _⟩
  | true=>
   have hq:=g2 rfl
   obtain⟨R,r1,r2⟩:=nx l i a b c ds hds ha hs m (j+1) (acc ++ [(⟨a,b,c,ds[j]⟩:da)]) (by omega) (by simp;omega) (fun q h=>by
    rcases List.mem_append.1 h with h|h
    ·exact hg q h
    ·rw[List.mem_singleton.1 h];exact hq) (fun A hA hAg=>hR A (by simp at hA;omega) hAg)
   have hj2:∀ x:Bool,∃ R,Ev (fun k=>aq.j2 k l acc l (l.length:Int) (i:Int) ds (ds.length:Int) (j:Int) x a b c ds a b c ds[j]) R∧Few R:=fun x=>by
    cases x with
    | true=>exact⟨([],false),Ev.step (f:=fun _=>some (([]:List da),false)) (fun k=>rfl) (Ev.now _),jB _⟩
    | false=>
     refine⟨R,Ev.step (fun k=>?_) r1,r2⟩;show(if acc.length<2932031007402 then(aq.l1 k l (acc ++ [(⟨a,b,c,ds[j]⟩:da)]) l (l.length:Int) (i:Int) ds (ds.length:Int) (wrap64 ((j:Int)+1)) a b c ds)else none)=_;rw[if_pos (by omega),d_ (by omega)]
   by_cases hz:acc.length=0
   · obtain ⟨R, r1, r2⟩ := hj2 false
     refine⟨R,Ev.step e0 (Ev.bind g1 ?_),r2⟩;simp only[if_true,if_neg (show ¬ ((acc.length:Int)>0) by omega)];exact r1
   · obtain ⟨n, hn⟩ : ∃ n, acc.length = n + 1 := ⟨acc.length - 1, by omega⟩
     have hww:wrap64 ((acc.length:Int)-1)=(n:Int):=by rw[hn,sm (by omega)]
     have hrq:=rdI acc n (by omega);obtain⟨u,hu⟩:=pt (hg _ (List.getElem_mem (show n<acc.length by omega))) hq;obtain⟨R,r1,r2⟩:=hj2 (decide (u≥0));refine⟨R,Ev.step e0 (Ev.bind g1 ?_),r2⟩;simp only[if_true,hww,hrq,if_pos (show(acc.length:Int)>0 by omega),if_pos (show(0:Int)≤(n:Int) by omega),if_pos (show(n:Int)<(acc.length:Int) by omega)];exact Ev.bind hu r1
theorem nW(l:List ix)(N:Nat)(hN:N≤1000)(hl:l.length≤N)(hs:∀ s∈l,SSm N s): ∀ (m i:Nat) (acc:List da),i+m=l.length→acc.length≤N*i→(∀ q∈acc,GdR q)→∃ R,Ev (fun k=>aq.l0 k l acc l (l.length:Int) (i:Int)) R∧Few R
 | 0,i,acc,hi,hc,hg=>by
  have hNi:N*i≤1000*1000:=Nat.mul_le_mul hN (by omega);obtain⟨S,b,h1,h2,h3⟩:=ny acc (by omega) (fun r hr=>(hg r hr).1)
  have e0:=fun k=>show aq.l0 (k+1) l acc l (l.length:Int) (i:Int)=_ by
   rw[aq.l0,if_neg (by omega)]
  have j3:∀ x:Bool,(acc.length≤60∨x=true)→∃ R,Ev (fun k=>aq.j3 k acc x) R∧Few R:=fun x hx=>by
   cases x with
   | true=>exact⟨([],false),Ev.step (f:=fun _=>some (([]:List da),false)) (fun k=>rfl) (Ev.now _),jB _⟩
   | false=>exact⟨(acc,true),Ev.step (f:=fun _=>some (acc,true)) (fun k=>rfl) (Ev.now _),hx.resolve_right (by decide),fun r hr=>(hg r hr).1⟩
  cases b with
  | false=>
   obtain⟨R,r1,r2⟩:=j3 true (.inr rfl);exact⟨R,Ev.step e0 (Ev.bind h1 (by simpa using r1)),r2⟩
  | true=>
   by_cases hx:(acc.length:Int)>60
   · obtain ⟨R, r1, r2⟩ := j3 true (.inr rfl)
     exact⟨R,Ev.step e0 (Ev.bind h1 (by simp only[if_true,if_pos hx];exact r1)),r2⟩
   · obtain ⟨R, r1, r2⟩ := j3 ((S.length : Int) != (l.length : Int)) (.inl (by omega))
     exact⟨R,Ev.step e0 (Ev.bind h1 (by simp only[if_true,if_neg hx];exact r1)),r2⟩
 | m+1,i,acc,hi,hc,hg=>by
  have hlt:i<l.length:=by omega
  have hq:=hs l[i] (List.getElem_mem hlt);have hNi:N*i≤1000*1000:=Nat.mul_le_mul hN (by omega);have hq1:=hq.1
  have e0:=fun k=>show aq.l0 (k+1) l acc l (l.length:Int) (i:Int)=_ by
   rw[aq.l0,if_pos (by omega),if_pos (by omega),if_pos (by omega),sn l i hlt]
  by_cases hz:(l[i].f3.length:Int)=0
  · refine ⟨([], false), Ev.step e0 ?_, jB _⟩
    simp only[if_pos hz];exact Ev.now _
  · obtain⟨R,r1,r2⟩:=nx l i l[i].f0 l[i].f1 l[i].f2 l[i].f3 (by omega) hq.2.1 hq.2.2 l[i].f3.length 0 acc (by omega) (by omega) hg (fun A hA hAg=>by
     rw[d_ (by omega)]
     exact nW l N hN hl hs m (i+1) A (by omega) (by rw[Nat.mul_succ];omega) hAg)
    refine⟨R,Ev.step e0 ?_,r2⟩;simp only[if_neg hz];exact r1
theorem qu(l:List ix)(N:Nat)(hN:N≤1000)(hl:l.length≤N)(hs:∀ s∈l,SSm N s): ∃ R,Ev (fun k=>aq.f k l) R∧Few R:=by
 obtain⟨R,h1,h2⟩:=nW l N hN hl hs l.length 0 [] (by omega) (by simp) (fun q h=>by cases h);exact⟨R,Ev.congr (fun k=>rfl) h1,h2⟩
theorem qD(q r:da)(hq:dG q.f0)(hr:dG r.f0): ∃ t:Int,Ev (fun k=>bV.f k q.f0 q.f1 q.f2 q.f3 r.f0 r.f1 r.f2 r.f3) t∧(t=0↔q.f0.data.toList=r.f0.data.toList∧q.f1=r.f1):=by
 refine⟨or2 (lE q.f0.data.toList r.f0.data.toList) (jV q.f1 r.f1),?_,?_⟩
 · refine Ev.congr (fun k => rfl) (Ev.bind (lZ _ _ hq hr) ?_)
   simp only[qT,Option.bind_some];exact Ev.bind (rv _ _) (Ev.now _)
 ·rw[pU,pW,oU]
theorem lG{i:Nat}(h:i<4611686018427387904): wrap64 (((i+1:Nat):Int)-1)=(i:Int):=by unfold wrap64;omega
def lu(l:List da)(n:Nat): Prop:=∀ q r:da,0<n→l[n-1]? = some q→l[n]? = some r→¬ (q.f0.data.toList=r.f0.data.toList∧q.f1=r.f1)
theorem kR(L:List da)(N:Nat)(hN:N+1=L.length)(hs:∀ r∈L,dG r.f0)(hl:L.length<1099511627776): ∀ (i:Nat) (hi:i≤N),(L[i].f0.data.toList=L[N].f0.data.toList∧L[i].f1=L[N].f1) →
 ∃ n,n≤i∧lu L n∧Ev (fun k=>bB.l0 k L (N:Int) (i:Int)) (L.take n)∧Ev (fun k=>aA.l0 k L (i:Int)) (L.take n)
 | i,hi,hk=>by
  have hJ:Ev (fun k=>bB.j1 k L (N:Int) (i:Int) false) (L.take i):=by
   refine Ev.step (fun k=>?_) (Ev.now (L.take i));rw[bB.j1,if_neg (by decide),Option.bind_some,if_pos (by omega),if_pos (by omega),Option.bind_some,Int.toNat_natCast,if_pos (by simp;omega),List.nil_append]
  have hW:Ev (fun k=>aA.j1 k L (i:Int) false) (L.take i):=by
   refine Ev.step (fun k=>?_) (Ev.now (L.take i));rw[aA.j1,if_neg (by decide),if_pos (by omega),if_pos (by omega),Int.toNat_natCast]
  cases i with
  | zero=>
   refine⟨0,Nat.le_refl _,fun _ _ h=>absurd h (by omega),Ev.step (fun k=>?_) hJ,Ev.step (fun k=>?_) hW⟩
   ·rw[bB.l0,if_neg (by omega)]
   ·rw[aA.l0,if_neg (by omega)]
  | succ i=>
   have h1:i<L.length:=by omega
   have h2:i+1<L.length:=by omega
   obtain⟨t,t1,t2⟩:=qD L[i] L[i+1] (hs _ (List.getElem_mem h1)) (hs _ (List.getElem_mem h2))
   have hS:∀ k,bB.l0 (k+1) L (N:Int) ((i+1:Nat):Int)=(if L[i].f0.data.toList=L[N].f0.data.toList then(bB.j1 k L (N:Int) ((i+1:Nat):Int) (L[i].f1==L[N].f1))else(bB.j1 k L (N:Int) ((i+1:Nat):Int) false)):=fun k=>by
    rw[bB.l0,if_pos (by omega),lG (by omega),if_pos (by omega),if_pos (by omega),if_pos (by omega),if_pos (by omega),rdI L i h1,rdI L N (by omega),Lib.toList_data,Lib.toList_data]
   have hI:∀ k,aA.l0 (k+1) L ((i+1:Nat):Int)=((bV.f k L[i].f0 L[i].f1 L[i].f2 L[i].f3 L[i+1].f0 L[i+1].f1 L[i+1].f2 L[i+1].f3).bind fun g0=>(aA.j1 k L ((i+1:Nat):Int) (g0==0))):=fun k=>by
    rw[aA.l0,if_pos (by omega),lG (by omega),if_pos (by omega),if_pos (by omega),if_pos (by omega),if_pos (by omega),rdI L i h1,rdI L (i+1) h2]
   by_cases c:L[i].f0.data.toList=L[N].f0.data.toList∧L[i].f1=L[N].f1
   · obtain ⟨n, n0, nt, n1, n2⟩ := kR L N hN hs hl i (by omega) c
     have ht:t=0:=t2.2 ⟨c.1.trans hk.1.symm,c.2.trans hk.2.symm⟩;refine⟨n,by omega,nt,Ev.step hS ?_,Ev.step hI (Ev.bind t1 ?_)⟩
     · simp only [if_pos c.1, beq_iff_eq.2 c.2]
       refine Ev.step (fun k=>?_) n1;rw[bB.j1,if_pos rfl,lG (by omega)]
     · rw [ht]
       refine Ev.step (fun k=>?_) n2;rw[aA.j1,if_pos (by decide),lG (by omega)]
   · have ht:¬ t=0:=fun e=>by
      have:=t2.1 e;exact c ⟨this.1.trans hk.1,this.2.trans hk.2⟩
     have hT:lu L (i+1):=fun q r _ hq hr e=>by
      rw[Nat.add_sub_cancel,List.getElem?_eq_getElem h1]at hq;rw[List.getElem?_eq_getElem h2]at hr;cases hq;cases hr;exact c ⟨e.1.trans hk.1,e.2.trans hk.2⟩
     refine⟨i+1,Nat.le_refl _,hT,Ev.step hS ?_,Ev.step hI (Ev.bind t1 ?_)⟩
     · by_cases c1 : L[i].f0.data.toList = L[N].f0.data.toList
       · have c2 : (L[i].f1 == L[N].f1) = false := beq_eq_false_iff_ne.2 fun e => c ⟨c1, e⟩
         simp only[if_pos c1,c2];exact hJ
       · simp only [if_neg c1]
         exact hJ
     · rw [show (t == 0) = false from beq_eq_false_iff_ne.2 ht]
       exact hW
theorem lg(L:List da)(h0:0<L.length)(hs:∀ r∈L,dG r.f0)(hl:L.length<1099511627776): ∃ n,n<L.length∧lu L n∧Ev (fun k=>bB.f k L) (L.take n)∧Ev (fun k=>aA.f k L) (L.take n):=by
 obtain⟨n,n0,nt,n1,n2⟩:=kR L (L.length-1) (by omega) hs hl (L.length-1) (Nat.le_refl _) ⟨rfl,rfl⟩
 have hw:wrap64 ((L.length:Int)-1)=((L.length-1:Nat):Int):=by unfold wrap64;omega
 refine⟨n,by omega,nt,Ev.congr (fun k=>?_) n1,Ev.congr (fun k=>?_) n2⟩
 · unfold bB.f
   rw[hw]
 · unfold aA.f
   rw[hw]
abbrev pa:=Int×Bool×Bool×Int×ByteArray×Int×List da×List da×Bool
abbrev kM: pa:=(0,false,false,0,(⟨#[]⟩:ByteArray),0,[],[],false)
theorem pZ(id:Int)(re cu:Bool)(co:Int)(nm:ByteArray)(ty:Int)(l6 l7:List da)(h6:l6.length≤12)(h7:l7.length≤12): ce.f id re cu co nm ty l6 l7=some (id,re,cu,co,nm,ty,l6,l7):=by
 unfold ce.f dt.f;rw[if_pos (by omega),if_pos (by omega)];rfl
def sI(z id:Int)(re cu:Bool)(co:Int)(nm:ByteArray)(ty:Int)(l6 l7:List da)(c:Bool)(x y:List da): Prop:=x <+: l6∧y <+: l7∧c=(cu||(decide (x.length<l6.length)||decide (y.length<l7.length)))∧(x.length<l6.length→y.length=0)∧lu l6 x.length∧∃ B:ByteArray,Ev (fun k=>ai.f k id re c co nm ty x y) (B,true)∧(B.size:Int)≤z
def l_(z id:Int)(re cu:Bool)(co:Int)(nm:ByteArray)(ty:Int)(l6 l7:List da)(R:pa): Prop:=R=kM∨∃ c x y,R=(id,re,c,co,nm,ty,x,y,true)∧sI z id re cu co nm ty l6 l7 c x y
theorem oq{z id:Int}{re cu:Bool}{co:Int}{nm:ByteArray}{ty:Int}{l6 l7:List da}{n:Nat}{R:pa}(hn:n<l7.length)(h:l_ z id re true co nm ty l6 (l7.take n) R): l_ z id re cu co nm ty l6 l7 R:=by
 rcases h with h|⟨c,x,y,h,h1,h2,h3,h4,h5,h6⟩
 ·exact .inl h
 · have hy := h2.length_le
   rw[List.length_take]at hy;exact .inr ⟨c,x,y,h,h1,h2.trans (List.take_prefix _ _),by rw[h3,decide_eq_true (show y.length<l7.length by omega)];simp,h4,h5,h6⟩
theorem oI{z id:Int}{re cu:Bool}{co:Int}{nm:ByteArray}{ty:Int}{l6 l7:List da}{n:Nat}{R:pa}(h0:l7.length=0)(hn:n<l6.length)(ht:lu l6 n)(h:l_ z id re true co nm ty (l6.take n) l7 R): l_ z id re cu co nm ty l6 l7 R:=by
 rcases h with h|⟨c,x,y,h,h1,h2,h3,h4,h5,h6⟩
 ·exact .inl h
 · have hx := h1.length_le
   have hy:=h2.length_le;rw[List.length_take]at hx;refine .inr ⟨c,x,y,h,h1.trans (List.take_prefix _ _),h2,by rw[h3,decide_eq_true (show x.length<l6.length by omega)];simp,fun _=>by omega,?_,h6⟩
   by_cases e:x.length=n
   ·rw[e];exact ht
   · intro q r p hq hr
     exact h5 q r p (by rw[List.getElem?_take,if_pos (by omega)];exact hq) (by rw[List.getElem?_take,if_pos (by omega)];exact hr)
theorem jL(z:Int)(hz:z≤600)(id:Int)(re:Bool)(co:Int)(nm:ByteArray)(ty:Int)(hn:cO nm.data.toList=true): ∀ (m:Nat) (cu:Bool) (l6 l7:List da),l6.length+l7.length≤m→l6.length≤12→l7.length≤12→(∀ r∈l6,GdR r)→(∀ r∈l7,GdR r) →
 ∃ R,l_ z id re cu co nm ty l6 l7 R∧Ev (fun k=>bd.l0 k z id re cu co nm ty l6 l7) R∧Ev (fun k=>aC.l0 k z id re cu co nm ty l6 l7) R
 | m,cu,l6,l7,hm,h6,h7,g6,g7=>by
  obtain⟨B,b,ok,e1,e2,e3,e4⟩:=mM id re cu co nm ty l6 l7 hn h6 h7 g6 g7
  by_cases hB:(B.size:Int)>z
  · -- both cut
    have hS:∀ {R:pa},Ev (fun k=>if(l7.length:Int)>0 then((bB.f k l7).bind fun g2=>(bd.l0 k z id re true co nm ty l6 g2))else(if(l6.length:Int)>0 then((bB.f k l6).bind fun g3=>(bd.l0 k z id re true co nm ty g3 l7))else(some kM))) R→Ev (fun k=>bd.l0 k z id re cu co nm ty l6 l7) R:=fun h=>by
     refine Ev.step (fun k=>by rw[bd.l0]) (Ev.bind e1 ?_);simp only[if_pos hB];exact h
    have hI:∀ {R:pa},Ev (fun k=>if(l7.length:Int)>0 then((aA.f k l7).bind fun g0=>(aC.l0 k z id re true co nm ty l6 g0))else(if(l6.length:Int)>0 then((aA.f k l6).bind fun g1=>(aC.l0 k z id re true co nm ty g1 l7))else(some kM))) R→Ev (fun k=>aC.l0 k z id re cu co nm ty l6 l7) R:=fun h=>by
     refine Ev.step (fun k=>by rw[aC.l0]) (Ev.bind e2 ?_);have hj:Ev (fun k=>aC.j2 k z false id re cu co nm ty l6 l7) _:=Ev.step (fun k=>by rw[aC.j2,if_neg (by decide)]) h
     cases ok with
     | true=>
      obtain rfl:=e3 rfl;simp only[if_true,decide_eq_false (show ¬ (b.size:Int)≤z by omega)];exact hj
     | false=>
      simp only[Bool.false_eq_true,if_false];exact hj
    by_cases c7:0<l7.length
    · obtain ⟨n, n0, nt, n1, n2⟩ := lg l7 c7 (fun r hr => (g7 r hr).1.1) (by omega)
      cases m with
      | zero=>omega
      | succ m=>
       obtain⟨R,q0,q1,q2⟩:=jL z hz id re co nm ty hn m true l6 (l7.take n) (by rw[List.length_take];omega) h6 (by rw[List.length_take];omega) g6 (fun r hr=>g7 r (List.mem_of_mem_take hr));refine⟨R,oq n0 q0,hS ?_,hI ?_⟩
       · simp only [if_pos (show (l7.length : Int) > 0 by omega)]
         exact Ev.bind n1 q1
       · simp only [if_pos (show (l7.length : Int) > 0 by omega)]
         exact Ev.bind n2 q2
    · by_cases c6 : 0 < l6.length
      · obtain ⟨n, n0, nt, n1, n2⟩ := lg l6 c6 (fun r hr => (g6 r hr).1.1) (by omega)
        cases m with
        | zero=>omega
        | succ m=>
         obtain⟨R,q0,q1,q2⟩:=jL z hz id re co nm ty hn m true (l6.take n) l7 (by rw[List.length_take];omega) (by rw[List.length_take];omega) h7 (fun r hr=>g6 r (List.mem_of_mem_take hr)) g7;refine⟨R,oI (by omega) n0 nt q0,hS ?_,hI ?_⟩
         · simp only [if_neg (show ¬ (l7.length : Int) > 0 by omega), if_pos (show (l6.length : Int) > 0 by omega)]
           exact Ev.bind n1 q1
         · simp only [if_neg (show ¬ (l7.length : Int) > 0 by omega), if_pos (show (l6.length : Int) > 0 by omega)]
           exact Ev.bind n2 q2
      · refine ⟨kM, .inl rfl, hS ?_, hI ?_⟩
        · simp only [if_neg (show ¬ (l7.length : Int) > 0 by omega), if_neg (show ¬ (l6.length : Int) > 0 by omega)]
          exact Ev.now _
        · simp only [if_neg (show ¬ (l7.length : Int) > 0 by omega), if_neg (show ¬ (l6.length : Int) > 0 by omega)]
          exact Ev.now _
  · have hok:ok=true:=by
     cases ok with
     | true=>rfl
     | false=>have:=e4 rfl;omega
    subst hok;obtain rfl:=e3 rfl;refine⟨(id,re,cu,co,nm,ty,l6,l7,true),.inr ⟨cu,l6,l7,rfl,List.prefix_rfl,List.prefix_rfl,by simp,fun h=>absurd h (by omega),fun q r p hq hr=>(by rw[List.getElem?_eq_none (Nat.le_refl _)]at hr;cases hr),_,e2,by omega⟩,Ev.step (fun k=>by rw[bd.l0]) (Ev.bind e1 ?_),Ev.step (fun k=>by rw[aC.l0]) (Ev.bind e2 ?_)⟩
    · simp only [if_neg hB]
      exact Ev.now _
    · simp only [if_true, decide_eq_true (show (b.size : Int) ≤ z by omega)]
      refine Ev.step (fun k=>by rw[aC.j2,if_pos rfl,pZ _ _ _ _ _ _ _ _ h6 h7,Option.bind_some]) (Ev.now _)
theorem kD: ∀ (l:List da),(∀ y∈l,dG y.f0∧dG y.f3)→Ev (fun k=>bJ.f k l) true→∀ r∈l,GdR r
 | [],_,_,r,hr=>by cases hr
 | x::l,hs,h,r,hr=>by
  obtain⟨b,_,_,b2,_⟩:=fj x.f0 x.f1 x.f2 x.f3 (hs x (.head _)).1 (hs x (.head _)).2
  cases b with
  | false=>
   have hf:Ev (fun k=>bJ.f k (x::l)) false:=Ev.congr (fun k=>rfl) (Ev.bind b2 (Ev.now _));cases Ev.unique h hf
  | true=>
   rcases List.mem_cons.1 hr with rfl|hr
   ·exact⟨hs r (.head _),b2⟩
   · refine kD l (fun y hy => hs y (.tail _ hy)) ?_ r hr
     obtain⟨K,hK⟩:=h;obtain⟨K2,hK2⟩:=b2;refine⟨max K K2,fun k hk=>?_⟩;have h1:=hK k (by omega);have h2:=hK2 k (by omega);simp only[bJ.f]at h1;dsimp only at h2;rw[h2,Option.bind_some,if_pos rfl]at h1;exact h1
theorem ky: ∀ (l:List da),(∀ r∈l,GdR r)→Ev (fun k=>bJ.f k l) true
 | [],_=>Ev.congr (fun k=>rfl) (Ev.now _)
 | x::l,h=>Ev.congr (fun k=>rfl) (Ev.bind (h x (.head _)).2 (by simpa using ky l (fun y hy=>h y (.tail _ hy))))
theorem rK{id:Int}{cu:Bool}{co:Int}{nm:ByteArray}{ty:Int}{g6 g7 c:Bool}{x y:List da}{n6 n7:Int}(hn:dG nm)(hB:kO id true cu co nm.data.toList ty n6 n7 g6 g7=true)(hx:x.length≤12)(hy:y.length≤12)(gx:∀ r∈x,GdR r)(gy:∀ r∈y,GdR r): Ev (fun k=>cw.f k id true c co nm ty x y) true:=by
 obtain⟨g1,g2,a1,a2,_,m⟩:=gP id true c co nm ty x y hn (by omega) (by omega) (fun r hr=>(gx r hr).1) (fun r hr=>(gy r hr).1);obtain rfl:=Ev.unique a1 (ky x gx);obtain rfl:=Ev.unique a2 (ky y gy);unfold kO at hB m;simp only[Bool.and_eq_true]at hB;obtain⟨b1,b2,b3,b4,_,_,_⟩:=hB;rw[b1,b2,b3,b4,decide_eq_true (show(x.length:Int)≤12 by omega),decide_eq_true (show(y.length:Int)≤12 by omega)]at m;exact m
theorem qK(id:Int)(re cu:Bool)(co:Int)(nm:ByteArray)(ty:Int)(l6 l7:List da)(z:Int)(hn:dG nm)(h6:l6.length≤1048576)(h7:l7.length≤1048576)(s6:∀ y∈l6,dG y.f0∧dG y.f3)(s7:∀ y∈l7,dG y.f0∧dG y.f3):
 ∃ R,(R=kM∨∃ c x y B,R=(id,re,c,co,nm,ty,x,y,true)∧x.length≤12∧y.length≤12∧x <+: l6∧y <+: l7∧c=(cu||(decide (x.length<l6.length)||decide (y.length<l7.length)))∧(x.length<l6.length→y.length=0)∧lu l6 x.length∧Ev (fun k=>dy.f k id re c co nm ty x y) (B,true)∧(B.size:Int)≤z∧Ev (fun k=>aC.f k id re c co nm ty x y z) (id,re,c,co,nm,ty,x,y,true)) ∧
  Ev (fun k=>bd.f k id re cu co nm ty l6 l7 z) R∧Ev (fun k=>aC.f k id re cu co nm ty l6 l7 z) R:=by
 obtain⟨g6,g7,a6,a7,m1,m2⟩:=gP id re cu co nm ty l6 l7 hn h6 h7 s6 s7;have jS:Ev (fun k=>bd.j0 k z true id re cu co nm ty l6 l7) kM:=Ev.step (fun k=>by rw[bd.j0,if_pos rfl]) (Ev.now _);have jI:Ev (fun k=>aC.j0 k z true id re cu co nm ty l6 l7) kM:=Ev.step (fun k=>by rw[aC.j0,if_pos rfl]) (Ev.now _)
 cases hB:kO id re cu co nm.data.toList ty l6.length l7.length g6 g7 with
 | false=>
  rw[hB]at m1 m2;refine⟨kM,.inl rfl,Ev.congr (fun k=>rfl) (Ev.bind m1 ?_),Ev.congr (fun k=>rfl) (Ev.bind m2 ?_)⟩
  · simp only [Bool.false_eq_true, if_false]
    exact jS
  · simp only [Bool.false_eq_true, if_false]
    exact jI
 | true=>
  rw[hB]at m1 m2
  cases re with
  | false=>
   refine⟨kM,.inl rfl,Ev.congr (fun k=>rfl) (Ev.bind m1 ?_),Ev.congr (fun k=>rfl) (Ev.bind m2 ?_)⟩
   · simp only [if_true, Bool.false_eq_true, if_false]
     exact jS
   · simp only [if_true, Bool.false_eq_true, if_false]
     exact jI
  | true=>
   by_cases hz:20≤z∧z≤600
   · have hB' := hB
     unfold kO at hB';simp only[Bool.and_eq_true,decide_eq_true_eq]at hB';obtain⟨_,_,hg,_,⟨k6,n6⟩,⟨k7,n7⟩,_⟩:=hB';subst k6 k7;have gr6:=kD l6 s6 a6;have gr7:=kD l7 s7 a7;obtain⟨R,q0,q1,q2⟩:=jL z hz.2 id true co nm ty hg _ cu l6 l7 (Nat.le_refl _) (by omega) (by omega) gr6 gr7;refine⟨R,?_,Ev.congr (fun k=>rfl) (Ev.bind m1 ?_),Ev.congr (fun k=>rfl) (Ev.bind m2 ?_)⟩
     · rcases q0 with q0 | ⟨c, x, y, r0, r1, r2, r3, r4, r5, B, r6, r7⟩
       ·exact .inl q0
       · have hx := r1.length_le
         have hy:=r2.length_le;have hG:=rK (c:=c) hn hB (show x.length≤12 by omega) (show y.length≤12 by omega) (fun r hr=>gr6 r (r1.subset hr)) (fun r hr=>gr7 r (r2.subset hr));refine .inr ⟨c,x,y,B,r0,by omega,by omega,r1,r2,r3,r4,r5,Ev.congr (fun k=>rfl) (Ev.bind hG ?_),r7,Ev.congr (fun k=>rfl) (Ev.bind hG ?_)⟩
         · simp only [if_true]
           exact Ev.bind r6 (Ev.now _)
         · simp only [if_true, eZ, Option.bind_some, decide_eq_true hz, Bool.not_true]
           refine Ev.step (fun k=>by rw[aC.j0,if_neg (by decide)]) (Ev.step (fun k=>by rw[aC.l0]) (Ev.bind r6 ?_));simp only[if_true,decide_eq_true r7];exact Ev.step (fun k=>by rw[aC.j2,if_pos rfl,pZ _ _ _ _ _ _ _ _ (by omega) (by omega),Option.bind_some]) (Ev.now _)
     · simp only [if_true, dA, Option.bind_some, decide_eq_true hz, Bool.not_true]
       refine Ev.step (fun k=>?_) q1;rw[bd.j0,if_neg (by decide),Option.bind_some,if_pos (by simp;omega),Option.bind_some,if_pos (by simp;omega),List.nil_append,List.nil_append]
     · simp only [if_true, eZ, Option.bind_some, decide_eq_true hz, Bool.not_true]
       refine Ev.step (fun k=>?_) q2;rw[aC.j0,if_neg (by decide)]
   · refine ⟨kM, .inl rfl, Ev.congr (fun k => rfl) (Ev.bind m1 ?_), Ev.congr (fun k => rfl) (Ev.bind m2 ?_)⟩
     · simp only [if_true, dA, Option.bind_some, decide_eq_false hz, Bool.not_false]
       exact jS
     · simp only [if_true, eZ, Option.bind_some, decide_eq_false hz, Bool.not_false]
       exact jI
theorem lh{l:List Int}(hl:fg l): ∀ (m:Nat) (acc:List da) (at_ sd:Int) (n:Nat),Cur at_ n→n+50*m<4611686018427300000→acc.length+m≤61→(∀ r∈acc,SmR r) →
 ∃ out at2 sd2,Ev (fun k=>aK.l0 k acc (m:Int) l at_ sd) (out,at2,sd2)∧out.length=acc.length+m∧(∀ r∈out,SmR r)∧Cur at2 (n+50*m)
 | 0,acc,at_,sd,n,hc,hn,ha,hs=>by
  refine⟨acc,at_,sd,Ev.step (f:=fun _=>some (acc,at_,sd)) (fun k=>?_) (Ev.now _),by omega,hs,ex hc (by omega)⟩;show aK.l0 (k+1) acc ((0:Nat):Int) l at_ sd=_;rw[aK.l0,if_neg (by omega)]
 | m+1,acc,at_,sd,n,hc,hn,ha,hs=>by
  obtain⟨a,b,c,d,at2,sd2,e1,h1,h2,hc2⟩:=pj hl hc (by omega) (sd:=sd);obtain⟨x,at3,sd3,e2,hc3⟩:=gG hl hc2 (by omega) (sd:=sd2) 6
  have hw:wrap64 (((m+1:Nat):Int)-1)=(m:Int):=by unfold wrap64;omega
  have go:∀ ttl:Int,∃ out at4 sd4,Ev (fun k=>aK.l0 k (acc ++ [(⟨a,b,ttl,d⟩:da)]) (m:Int) l at3 sd3) (out,at4,sd4)∧out.length=acc.length+(m+1)∧(∀ r∈out,SmR r)∧Cur at4 (n+50*(m+1)):=by
   intro ttl
   obtain⟨out,at4,sd4,e,hlen,hs',hc4⟩:=lh hl m (acc ++ [(⟨a,b,ttl,d⟩:da)]) at3 sd3 (n+42) hc3 (by omega) (by rw[List.length_append,List.length_singleton];omega) (fun r hr=>by
    rcases List.mem_append.1 hr with h|h
    ·exact hs r h
    ·rw[List.mem_singleton.1 h];exact⟨by show a.size≤1048576;omega,by show d.size≤1048576;omega⟩)
   exact⟨out,at4,sd4,e,by rw[hlen,List.length_append,List.length_singleton];omega,hs',ex hc4 (by omega)⟩
  have e0:∀ k,aK.l0 (k+1) acc ((m+1:Nat):Int) l at_ sd=(bf.f k l at_ sd).bind fun g0=>((bU.f l g0.2.2.2.2.1 g0.2.2.2.2.2 6).bind fun g1=>(if g1.1=true then(if acc.length<2932031007402 then(aK.l0 k (acc ++ [(⟨g0.1,g0.2.1,g0.2.2.1,g0.2.2.2.1⟩:da)]) (m:Int) l g1.2.1 g1.2.2)else(none))else(if acc.length<2932031007402 then(aK.l0 k (acc ++ [(⟨g0.1,g0.2.1,60,g0.2.2.2.1⟩:da)]) (m:Int) l g1.2.1 g1.2.2)else(none)))):=fun k=>by
   rw[aK.l0,if_pos (by omega),hw]
  have hlt:acc.length<2932031007402:=by omega
  cases x with
  | true=>
   obtain⟨out,at4,sd4,e,r1,r2,r3⟩:=go c;refine⟨out,at4,sd4,Ev.step e0 (Ev.bind e1 ?_),r1,r2,r3⟩;simp only[e2,Option.bind_some,if_true,if_pos hlt];exact e
  | false=>
   obtain⟨out,at4,sd4,e,r1,r2,r3⟩:=go 60;refine⟨out,at4,sd4,Ev.step e0 (Ev.bind e1 ?_),r1,r2,r3⟩;simp only[e2,Option.bind_some,Bool.false_eq_true,if_false,if_pos hlt];exact e
theorem iC{l:List Int}(hl:fg l){at_ sd:Int}{n:Nat}(hc:Cur at_ n)(hn:n<4611686018427200000):
 ∃ out at2 sd2,Ev (fun k=>aK.f k l at_ sd) (out,at2,sd2)∧out.length≤61∧(∀ r∈out,SmR r)∧Cur at2 (n+4000):=by
 obtain⟨i,at2,sd2,e1,hi,hc2⟩:=dY hl hc (by omega) (sd:=sd) 9;obtain⟨x,at3,sd3,e2,hc3⟩:=gG hl hc2 (by omega) (sd:=sd2) 30
 have go:∀ m:Nat,m≤61→∃ out at4 sd4,Ev (fun k=>aK.j0 k ([]:List da) (m:Int) l at3 sd3) (out,at4,sd4)∧out.length≤61∧(∀ r∈out,SmR r)∧Cur at4 (n+4000):=by
  intro m hm;obtain⟨out,at4,sd4,e,hlen,hs,hc4⟩:=lh hl m [] at3 sd3 (n+4) hc3 (by omega) (by simp only[List.length_nil];omega) (fun r hr=>by cases hr);exact⟨out,at4,sd4,Ev.step (fun k=>rfl) e,by rw[hlen];simp only[List.length_nil];omega,hs,ex hc4 (by omega)⟩
 cases x with
 | true=>
  obtain⟨out,at4,sd4,e,r1,r2,r3⟩:=go 61 (by omega);refine⟨out,at4,sd4,Ev.congr (fun k=>?_) e,r1,r2,r3⟩;unfold aK.f;rw[e1,Option.bind_some,e2,Option.bind_some];rfl
 | false=>
  obtain⟨j,rfl⟩:=Int.eq_ofNat_of_zero_le hi.1;obtain⟨out,at4,sd4,e,r1,r2,r3⟩:=go j (by omega);refine⟨out,at4,sd4,Ev.congr (fun k=>?_) e,r1,r2,r3⟩;unfold aK.f;rw[e1,Option.bind_some,e2,Option.bind_some];rfl
abbrev QR:=Int×Bool×Bool×Int×ByteArray×Int×List da×List da×Bool
theorem mQ(id:Int)(nm:ByteArray)(ty:Int)(hn:dG nm): ∃ (i:Int) (re cu:Bool) (co:Int) (n:ByteArray) (t:Int) (ok:Bool),dG n∧Ev (fun k=>dD.f k id nm ty) (i,re,cu,co,n,t,[],[],ok):=by
 obtain⟨g6,g7,_,_,r1,_⟩:=gP id false false 0 nm ty [] [] hn (by simp) (by simp) (fun y hy=>by cases hy) (fun y hy=>by cases hy)
 cases hB:kO id false false 0 nm.data.toList ty ([]:List da).length ([]:List da).length g6 g7 with
 | true=>rw[hB]at r1;exact⟨id,false,false,0,nm,ty,true,hn,Ev.congr (fun k=>rfl) (Ev.bind r1 (Ev.now _))⟩
 | false=>rw[hB]at r1;exact⟨0,false,false,0,(⟨#[]⟩:ByteArray),0,false,Nat.zero_le _,Ev.congr (fun k=>rfl) (Ev.bind r1 (Ev.now _))⟩
def Rows(x:List da): Prop:=x.length≤1000∧∀ r∈x,SmR r
theorem eN: Rows []:=⟨by simp,fun r h=>by cases h⟩
theorem nk(id:Int)(re cu:Bool)(co:Int)(nm:ByteArray)(ty:Int)(code:Int)(an au:List da)(hn:dG nm)(ha:Rows an)(hu:Rows au):
 ∃ (i:Int) (r c:Bool) (o:Int) (n:ByteArray) (t:Int) (A B:List da) (ok:Bool),dG n∧Rows A∧Rows B∧Ev (fun k=>cq.f k id re cu co nm ty [] [] code an au) (i,r,c,o,n,t,A,B,ok):=by
 obtain⟨g6,g7,_,_,m1,_⟩:=gP id re cu co nm ty [] [] hn (by simp) (by simp) (fun y hy=>by cases hy) (fun y hy=>by cases hy);obtain⟨p6,p7,_,_,o1,_⟩:=gP id true cu code nm ty an au hn (by have:=ha.1;omega) (by have:=hu.1;omega) ha.2 hu.2;have h1:=ha.1;have h2:=hu.1;have bad:∃ (i:Int) (r c:Bool) (o:Int) (n:ByteArray) (t:Int) (A B:List da) (ok:Bool),dG n∧Rows A∧Rows B∧((0,false,false,0,(⟨#[]⟩:ByteArray),0,[],[],false):QR)=(i,r,c,o,n,t,A,B,ok):=⟨0,false,false,0,_,0,[],[],false,Nat.zero_le _,eN,eN,rfl⟩
 have jb:Ev (fun k=>cq.j0 k code an au true id re cu co nm ty [] []) (0,false,false,0,(⟨#[]⟩:ByteArray),0,[],[],false):=
  Ev.step (f:=fun _=>some (0,false,false,0,(⟨#[]⟩:ByteArray),0,[],[],false)) (fun k=>by rw[cq.j0,if_pos rfl]) (Ev.now _)
 have jx:∀ x:Bool,∃ (i:Int) (r c:Bool) (o:Int) (n:ByteArray) (t:Int) (A B:List da) (ok:Bool),dG n∧Rows A∧Rows B∧Ev (fun k=>cq.j0 k code an au x id re cu co nm ty [] []) (i,r,c,o,n,t,A,B,ok):=fun x=>by
  cases x with
  | true=>exact⟨0,false,false,0,_,0,[],[],false,Nat.zero_le _,eN,eN,jb⟩
  | false=>
   have hj:∀ (R:QR),Ev (fun k=>(bK.f k id true cu code nm ty an au).bind fun g0=>(if g0=true then(some (id,true,cu,code,nm,ty,an,au,true))else(some (0,false,false,0,(⟨#[]⟩:ByteArray),0,([]:List da),([]:List da),false)))) R→Ev (fun k=>cq.j0 k code an au false id re cu co nm ty [] []) R:=fun R hR=>by
    refine Ev.step (fun k=>?_) hR;rw[cq.j0,if_neg (by decide),Option.bind_some,if_pos (by simp;omega),Option.bind_some,Option.bind_some,if_pos (by simp;omega),Option.bind_some];rfl
   cases hC:kO id true cu code nm.data.toList ty an.length au.length p6 p7 with
   | false=>rw[hC]at o1;exact⟨0,false,false,0,_,0,[],[],false,Nat.zero_le _,eN,eN,hj _ (Ev.bind o1 (Ev.now _))⟩
   | true=>rw[hC]at o1;exact⟨id,true,cu,code,nm,ty,an,au,true,hn,ha,hu,hj _ (Ev.bind o1 (Ev.now _))⟩
 cases hB:kO id re cu co nm.data.toList ty ([]:List da).length ([]:List da).length g6 g7 with
 | false=>
  rw[hB]at m1;obtain⟨i,r,c,o,n,t,A,B,ok,s1,s2,s3,s4⟩:=jx true;exact⟨i,r,c,o,n,t,A,B,ok,s1,s2,s3,Ev.congr (fun k=>rfl) (Ev.bind m1 (by simp only[Bool.false_eq_true,if_false];exact s4))⟩
 | true=>
  rw[hB]at m1;obtain⟨i,r,c,o,n,t,A,B,ok,s1,s2,s3,s4⟩:=jx re;exact⟨i,r,c,o,n,t,A,B,ok,s1,s2,s3,Ev.congr (fun k=>rfl) (Ev.bind m1 (by simp only[if_true];exact s4))⟩
theorem nq{l:List Int}(hl:fg l){p q:Int}{n:Nat}(hc:Cur p n)(hn:n<4611686018427380000)(m1:Int)(m2 m3:Bool)(m4:Int)(m5:ByteArray)(m6:Int)(x y:List da):
 ∃ i r c o p' q',aX.e l p q m1 m2 m3 m4 m5 m6 x y=some (i,r,c,o,m5,m6,x,y,p',q')∧Cur p' (n+4):=by
 obtain⟨i,p2,q2,e,_,c2⟩:=dY hl hc (by omega) (sd:=q) 30;unfold aX.e;rw[e,Option.bind_some]
 by_cases h0:i=0
 · obtain ⟨j, p3, q3, e3, _, c3⟩ := dY hl c2 (by omega) (sd := q2) 7
   simp only[if_pos h0,e3,Option.bind_some];exact⟨_,_,_,_,_,_,rfl,c3⟩
 · by_cases h1 : i = 1
   · simp only [if_neg h0, if_pos h1]
     exact⟨_,_,_,_,_,_,rfl,ex c2 (by omega)⟩
   · by_cases h2 : i = 2
     · obtain ⟨j, p3, q3, e3, _, c3⟩ := eT hl c2 (by omega) (sd := q2) [-1, 65535, 65536] (by decide)
       simp only[if_neg h0,if_neg h1,if_pos h2,e3,Option.bind_some];exact⟨_,_,_,_,_,_,rfl,c3⟩
     · simp only [if_neg h0, if_neg h1, if_neg h2]
       exact⟨_,_,_,_,_,_,rfl,ex c2 (by omega)⟩
theorem lm{l:List Int}(hl:fg l){p q:Int}{n:Nat}(hc:Cur p n)(hn:n<4611686018427000000): ∃ out p' q',Ev (fun k=>aH.f k l p q) (out,p',q')∧Rows out∧Cur p' (n+9000):=by
 obtain⟨a,p1,q1,e1,ha,ra,c1⟩:=iC hl hc (by omega) (sd:=q);obtain⟨S,b,e2,hS,sS⟩:=qG a (by omega) ra;obtain⟨⟨o,ok⟩,e3,ho⟩:=qu S 61 (by omega) (by omega) (fun s hs=>⟨by have:=(sS s hs).1;omega,(sS s hs).2⟩)
 have j1:∀ {x:List da} {p q:Int} {m:Nat},Rows x→Cur p m→m<4611686018427300000→∃ out p' q',Ev (fun k=>aH.j1 k x l p q) (out,p',q')∧Rows out∧Cur p' (m+2):=by
  intro x p q m hx hc hm
  by_cases h:(x.length:Int)>12
  · obtain ⟨u, p2, q2, e, c2⟩ := gG hl hc (by omega) (sd := q) 6
    cases u with
    | true=>exact⟨x,p2,q2,Ev.step (f:=fun _=>some (x,p2,q2)) (fun k=>by rw[aH.j1,if_pos h,e,Option.bind_some];rfl) (Ev.now _),hx,c2⟩
    | false=>exact⟨x.take 12,p2,q2,Ev.step (f:=fun _=>some (x.take 12,p2,q2)) (fun k=>by rw[aH.j1,if_pos h,e,Option.bind_some];show(if(12:Int)≤(x.length:Int)then _ else _)=_;rw[if_pos (by omega)];rfl) (Ev.now _),⟨by have:=hx.1;rw[List.length_take];omega,fun r hr=>hx.2 r (List.mem_of_mem_take hr)⟩,c2⟩
  ·exact⟨x,p,q,Ev.step (f:=fun _=>some (x,p,q)) (fun k=>by rw[aH.j1,if_neg h]) (Ev.now _),hx,ex hc (by omega)⟩
 have j0:∀ (b:Bool) {p q:Int} {m:Nat},Cur p m→m<4611686018427100000→∃ out p' q',Ev (fun k=>aH.j0 k o b l p q) (out,p',q')∧Rows out∧Cur p' (m+4002):=by
  intro b p q m hc hm
  cases b with
  | true=>
   obtain⟨x,p1,q1,e,hx,rx,c1⟩:=iC hl hc (by omega) (sd:=q);obtain⟨out,p2,q2,e2,ro,c2⟩:=j1 (q:=q1) ⟨by omega,rx⟩ c1 (by omega);exact⟨out,p2,q2,Ev.step (fun k=>by rw[aH.j0,if_pos rfl]) (Ev.bind e e2),ro,c2⟩
  | false=>
   obtain⟨out,p2,q2,e2,ro,c2⟩:=j1 (q:=q) ⟨Nat.le_trans ho.1 (by omega),ho.2⟩ hc (by omega);exact⟨out,p2,q2,Ev.step (fun k=>by rw[aH.j0,if_neg (by decide)]) e2,ro,ex c2 (by omega)⟩
 cases ok with
 | true=>
  obtain⟨u,p2,q2,e,c2⟩:=gG hl c1 (by omega) (sd:=q1) 6;obtain⟨out,p3,q3,e4,ro,c3⟩:=j0 u (q:=q2) c2 (by omega);refine⟨out,p3,q3,Ev.congr (fun k=>rfl) (Ev.bind e1 (Ev.bind e2 (Ev.bind e3 ?_))),ro,ex c3 (by omega)⟩;simp only[if_true,e,Option.bind_some];exact e4
 | false=>
  obtain⟨out,p3,q3,e4,ro,c3⟩:=j0 true (q:=q1) c1 (by omega);refine⟨out,p3,q3,Ev.congr (fun k=>rfl) (Ev.bind e1 (Ev.bind e2 (Ev.bind e3 ?_))),ro,ex c3 (by omega)⟩;simp only[Bool.false_eq_true,if_false];exact e4
theorem ov{l:List Int}(hl:fg l): ∃ i r c o nm t x y p q,Ev (fun k=>aX.f k l 0 0) (i,r,c,o,nm,t,x,y,p,q)∧dG nm∧Rows x∧Rows y∧Cur p 100000:=by
 obtain⟨a1,p1,q1,e1,_,c1⟩:=dY hl (at_:=0) (sd:=0) (n:=0) ⟨by omega,by omega⟩ (by omega) 65536;obtain⟨s,p2,q2,e2,hs,c2⟩:=lv hl c1 (by omega) (sd:=q1);obtain⟨ty,p3,q3,e3,_,c3⟩:=eT hl c2 (by omega) (sd:=q2) ([1,2,5,15,16]:List Int) (by decide);obtain⟨i,re,cu,co,nm,t,ok,hn,e4⟩:=mQ a1 s ty (by show s.size≤1048576;omega);obtain⟨u,p5,q5,e5,c5⟩:=gG hl c3 (by omega) (sd:=q3) 4
 cases u with
 | true=>
  obtain⟨i',r',c',o',p6,q6,e6,c6⟩:=nq hl c5 (by omega) (q:=q5) i re cu co nm t [] [];refine⟨i',r',c',o',nm,t,[],[],p6,q6,?_,hn,eN,eN,ex c6 (by omega)⟩;refine Ev.congr (fun k=>by unfold aX.f;rw[e1,Option.bind_some]) (Ev.bind e2 ?_);simp only[e3,Option.bind_some]
  refine Ev.bind e4 ?_
  simp only[e5,Option.bind_some,if_true,e6];exact Ev.now _
 | false=>
  obtain⟨cd,p6,q6,e6,_,c6⟩:=eT hl c5 (by omega) (sd:=q5) ([0,0,0,3,5]:List Int) (by decide);obtain⟨x,p7,q7,e7,rx,c7⟩:=lm hl c6 (by omega) (q:=q6);obtain⟨y,p8,q8,e8,ry,c8⟩:=lm hl c7 (by omega) (q:=q7);obtain⟨i2,re2,cu2,co2,nm2,t2,x2,y2,ok2,hn2,rx2,ry2,e9⟩:=nk i re cu co nm t cd x y hn rx ry
  have go:∀ R,Ev (fun k=>(cq.f k i re cu co nm t [] [] cd x y).bind fun n=>if n.2.2.2.2.2.2.2.2=true then aX.e l p8 q8 n.1 n.2.1 n.2.2.1 n.2.2.2.1 n.2.2.2.2.1 n.2.2.2.2.2.1 n.2.2.2.2.2.2.1 n.2.2.2.2.2.2.2.1 else aX.e l p8 q8 i re cu co nm t [] []) R→Ev (fun k=>aX.f k l 0 0) R:=fun R h=>by
   refine Ev.congr (fun k=>by unfold aX.f;rw[e1,Option.bind_some]) (Ev.bind e2 ?_);simp only[e3,Option.bind_some]
   refine Ev.bind e4 ?_
   simp only[e5,Option.bind_some,Bool.false_eq_true,if_false,e6];refine Ev.bind e7 (Ev.bind e8 ?_);exact h
  cases ok2 with
  | true=>
   obtain⟨i',r',c',o',p9,q9,g0,c9⟩:=nq hl c8 (by omega) (q:=q8) i2 re2 cu2 co2 nm2 t2 x2 y2;refine⟨i',r',c',o',nm2,t2,x2,y2,p9,q9,go _ (Ev.bind e9 ?_),hn2,rx2,ry2,ex c9 (by omega)⟩;simp only[if_true,g0];exact Ev.now _
  | false=>
   obtain⟨i',r',c',o',p9,q9,g0,c9⟩:=nq hl c8 (by omega) (q:=q8) i re cu co nm t [] [];refine⟨i',r',c',o',nm,t,[],[],p9,q9,go _ (Ev.bind e9 ?_),hn,eN,eN,ex c9 (by omega)⟩;simp only[Bool.false_eq_true,if_false,g0];exact Ev.now _
theorem oL{l:List Int}(hl:fg l): ∃ m1 m2 m3 m4 m5 m6 m7 m8 z,dG m5∧Rows m7∧Rows m8∧Ev (fun k=>dh.f k l) (m1,m2,m3,m4,m5,m6,m7,m8,z):=by
 obtain⟨i,r,c,o,nm,t,x,y,p,q,e,hn,rx,ry,hc⟩:=ov hl;obtain⟨z,p2,q2,e2,_,c2⟩:=eT hl hc (by omega) (sd:=q) ([19,20,40,60,90,150,600,601]:List Int) (by decide);refine⟨i,r,c,o,nm,t,x,y,z,hn,rx,ry,Ev.congr (fun k=>rfl) (Ev.bind e ?_)⟩;simp only[e2,Option.bind_some];exact Ev.now _
theorem gV(l:List da)(hl:l.length≤1048576): Ev (fun k=>bw.f k l l) true:=by
 have loop:∀ (m i:Nat),i+m=l.length→Ev (fun k=>bw.l0 k l l (l.length:Int) (i:Int)) true:=by
  intro m
  induction m with
  | zero=>
   intro i hi;refine Ev.step (f:=fun _=>some true) (fun k=>?_) (Ev.now _);rw[bw.l0,if_neg (by omega)]
  | succ m ih=>
   intro i hi;refine Ev.step (fun k=>?_) (ih (i+1) (by omega));rw[bw.l0,if_pos (by omega),if_pos (by omega),if_pos (by omega),if_pos (by omega),if_neg (by simp),d_ (by omega)]
 exact Ev.congr (fun k=>by unfold bw.f;rw[if_pos rfl];rfl) (loop l.length 0 (by omega))
theorem mi(id:Int)(re cu:Bool)(co:Int)(nm:ByteArray)(ty:Int)(l6 l7:List da)(h6:l6.length≤1048576)(h7:l7.length≤1048576): Ev (fun k=>di.f k id re cu co nm ty l6 l7 id re cu co nm ty l6 l7) true:=by
 unfold di.f;simp only[if_true,beq_self_eq_true]
 refine Ev.bind (gV l6 h6) ?_
 simp only[if_true];exact Ev.bind (gV l7 h7) (Ev.now _)
theorem FnCutTo: bA.Pure:=by
 intro l h1 h2 h3
 by_cases hbig:(l.length:Int)>1048576
 ·exact⟨0,Or.inl hbig⟩
 · obtain ⟨m1, m2, m3, m4, m5, m6, m7, m8, z, hn, hx, hy, k0, e0⟩ := oL (pr h3)
   obtain⟨R,hR,⟨k1,e1⟩,⟨k2,e2⟩⟩:=qK m1 m2 m3 m4 m5 m6 m7 m8 z hn (by have:=hx.1;omega) (by have:=hy.1;omega) hx.2 hy.2
   rcases hR with rfl|⟨c,x,y,B,rfl,g0,g1,px,py,hc,h0,hT,⟨k3,e3⟩,hB,⟨k4,e4⟩⟩
   · obtain ⟨k5, e5⟩ := mi 0 false false 0 (⟨#[]⟩ : ByteArray) 0 [] [] (by decide) (by decide)
     exact⟨k0+k1+k2+k5,Or.inr ⟨hbig,m1,m2,m3,m4,m5,m6,m7,m8,z,0,false,false,0,_,0,[],[],false,e0 _ (by omega),e2 _ (by omega),e1 _ (by omega),e5 _ (by omega),fun _=>rfl,fun h=>by cases h⟩⟩
   · obtain ⟨k5, e5⟩ := mi m1 m2 c m4 m5 m6 x y (by omega) (by omega)
     obtain⟨k6,e6⟩:=gV x (by omega);obtain⟨k7,e7⟩:=gV y (by omega);have qx:=List.prefix_iff_eq_take.1 px;have qy:=List.prefix_iff_eq_take.1 py;refine⟨k0+k1+k2+k3+k4+k5+k6+k7,Or.inr ⟨hbig,m1,m2,m3,m4,m5,m6,m7,m8,z,m1,m2,c,m4,m5,m6,x,y,true,e0 _ (by omega),e2 _ (by omega),e1 _ (by omega),e5 _ (by omega),(fun h=>by cases h),fun _=>⟨B,e3 _ (by omega),hB,Nat.le_trans hx.1 (by omega),px.length_le,py.length_le,?_,?_,hc,h0,?_,e4 _ (by omega)⟩⟩⟩
     ·rw[← qx];exact e6 _ (by omega)
     ·rw[← qy];exact e7 _ (by omega)
     · intro n hn1 hlt a b
       rw[rdI m7 n (by omega),rdI m7 x.length hlt]at a b;rw[Lib.toList_data,Lib.toList_data]at a;refine hT m7[n] m7[x.length] (by omega) (by rw[show x.length-1=n by omega];exact List.getElem?_eq_getElem _) (List.getElem?_eq_getElem _) ⟨a,b⟩
end Go.Proofs.YtiegkjimpclmaaaGreatDoor.Pure
