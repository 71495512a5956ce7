/- FnCutTo: part 3 of 17 of my texts for this claim, joined; the theorem stands in the last. Conditions: none beyond the statement's. -/
import Derived.Test.YtiegkjimpclmaaaGreatDoorMFnCutTox1
import Derived.Laws.StructEq
import Derived.Lib.LaidTab
import Derived.Lib.ItoaNum
import Derived.Shelf.AbstractIn
import Derived.Lib.SliceRun
import Derived.RangeFuncRecord
namespace Go.Proofs.YtiegkjimpclmaaaGreatDoorW.PrintWords
open Go.RowKit
namespace Kd
section
variable {α:Type} {d:Kd α} {e base g o n cap:Nat} {ok okp:Nat→Prop} {w W:World} {v:Value} {xs:List α}
theorem sJ(h:d.Q e w base ok v xs)(hp:0<xs.length): ∃ g o cap,v = .slice (some ⟨g,o,none⟩) xs.length cap∧base≤g∧g<w.heap.size∧∃ cells,w.heap[g]? = some (.cells cells e (0,0)):=by
 obtain⟨h0,inner,hq,hr⟩:=h
 rcases hq.2 with⟨h1,_⟩|⟨g,off,cap,cur,rfl,hb,hh,r⟩
 ·omega
 ·exact⟨g,off*d.sz,cap,rfl,hb,cB hh,cur,hh⟩
theorem pD(h:d.Q e W base ok (.slice (some ⟨g,o,none⟩) n cap) xs)(z:α)(i:Int)(h0:0≤i)(h1:i<n):
 ∃ c,c.length=d.sz∧d.M W base (fun k=>ok k∧k≠g) (xs.getD i.toNat z) c∧(∀ j u,c[j]? = some u→W.cell? ⟨g,o+i.toNat*d.sz+j,none⟩=some u)∧∀ j,W.frozen? ⟨g,o+i.toNat*d.sz+j,none⟩=false:=by
 obtain⟨hn,hnc,hC⟩:=kg h;obtain⟨_,inner,ho,hr⟩:=h
 have hil:i.toNat<xs.length:=by omega
 have hseg:i.toNat*d.sz+d.sz≤inner.length:=by rw[hr.1,← Nat.succ_mul];exact Nat.mul_le_mul_right _ hil
 have hM:=hr.2 i.toNat _ (List.getElem?_eq_getElem hil);refine⟨(inner.drop (i.toNat*d.sz)).take d.sz,by rw[List.length_take,List.length_drop];omega,?_,fun j u hu=>?_,fun j=>?_⟩
 · rw [List.getD_eq_getElem?_getD, List.getElem?_eq_getElem hil]
   exact d.M_mono (fun k hk=>⟨hk.1,fun he=>hk.2 (by rw[he];simp[Value.ownBlock])⟩) hM
 · rw [List.getElem?_take] at hu
   split at hu
   · rw [List.getElem?_drop] at hu
     subst hn;obtain⟨ad,he,hc⟩:=nw ho (by omega)
     injection he with he
     subst he;have:=hc _ u hu
     rwa [nj,← Nat.add_assoc]at this
   ·cases hu
 · obtain ⟨_, cells, hc⟩ := qA ho g (by simp [Value.ownBlock])
   exact cr hc _
theorem so(h:d.Q e W base ok (.slice (some ⟨g,o,none⟩) n cap) xs)(i:Int)(h0:0≤i)(h1:i<n){c seg:List Value}{j:Nat}(hcl:c.length=d.sz)(hcc:∀ j u,c[j]? = some u→W.cell? ⟨g,o+i.toNat*d.sz+j,none⟩=some u)
 (hj:j+seg.length≤d.sz) {x':α} (hM:d.M W base okp x' (c.take j++seg++c.drop (j+seg.length))) (hokp:∀ k,okp k→ok k∧k≠g) :
 d.Q e (W.setCells g (o+i.toNat*d.sz+j) seg) base ok (.slice (some ⟨g,o,none⟩) n cap) (xs.set i.toNat x')∧W.grownBy (W.setCells g (o+i.toNat*d.sz+j) seg) (some g):=by
 obtain⟨hn,hnc,_⟩:=kg h;obtain⟨hok,inner,ho,hr⟩:=h
 have hil:i.toNat<xs.length:=by omega
 have hseg:i.toNat*d.sz+d.sz≤inner.length:=by rw[hr.1,← Nat.succ_mul];exact Nat.mul_le_mul_right _ hil
 have hin:inner.length=n*d.sz:=by rw[hr.1,hn]
 obtain⟨ho1,ho2⟩:=ho
 rcases ho2 with⟨hz,_⟩|⟨g',off,cap',cur,hv,hb,hh,hnc',hcm,hcs,ht⟩
 ·omega
 injection hv with ha _ hc
 injection ha with ha
 injection ha with hg hoff
 subst hg;subst hc;subst hoff
 have hcap:n*d.sz≤cap*d.sz:=Nat.mul_le_mul_right _ hnc
 have hcs':cur.size=off*d.sz+cap*d.sz:=by rw[hcs,Nat.add_mul]
 have hfit:off*d.sz+i.toNat*d.sz+j+seg.length≤cur.size:=by omega
 obtain⟨cur',h3,h4,h5⟩:=gB seg (off*d.sz+i.toNat*d.sz+j) W cur hh hfit;obtain⟨s1,s2,s3,s4⟩:=fZ g seg (off*d.sz+i.toNat*d.sz+j) W
 have hfar:∀ k,k≠g→(W.setCells g (off*d.sz+i.toNat*d.sz+j) seg).heap[k]? = W.heap[k]?:=fun k hk=>gv seg _ k hk
 rw[← hn]at ht
 have hat:∀ q,q<n*d.sz→cur.toList[off*d.sz+q]? = inner[q]?:=by
  intro q hq;rw[← ht,List.getElem?_take,if_pos hq,List.getElem?_drop]
 have hcin:∀ q,q<d.sz→c[q]? = inner[i.toNat*d.sz+q]?:=by
  intro q hq
  have hq':q<c.length:=by omega
  have h6:=hcc q _ (List.getElem?_eq_getElem hq');rw[cell_of_row W g _ cur e (0,0) hh]at h6;rw[List.getElem?_eq_getElem hq',← h6,← hat _ (by omega),Array.getElem?_toList,Nat.add_assoc]
 refine⟨⟨hok,inner.take (i.toNat*d.sz+j)++seg++inner.drop (i.toNat*d.sz+j+seg.length),⟨?_,.inr ⟨g,off,cap,cur',by rw[List.length_set,hn],hb,h3,by rw[List.length_set,← hn];exact hnc,hcm,by rw[h4,hcs],?_⟩⟩,?_⟩,
  ⟨s1,s2,s3,by rw[s4];exact Nat.le_refl _,fun k _ hk=>hfar k (fun he=>hk (by rw[he]))⟩⟩
 · rw [List.length_set]
   simp only[List.length_append,List.length_take,List.length_drop];rw[hr.1]at hseg ⊢;omega
 · rw [List.length_set, ← hn]
   apply List.ext_getElem?;intro q;rw[List.getElem?_take,List.getElem?_drop,h5];rw[ft cur.toList seg (off*d.sz+i.toNat*d.sz+j) (by rw[Array.length_toList];omega) (off*d.sz+q),ft inner seg (i.toNat*d.sz+j) (by omega) q]
   by_cases hq:q<n*d.sz
   · rw [if_pos hq]
     by_cases hq1:q<i.toNat*d.sz+j
     ·rw[if_pos (by omega),if_pos hq1,hat q hq]
     · rw [if_neg (by omega), if_neg hq1]
       by_cases hq2:q<i.toNat*d.sz+j+seg.length
       · rw [if_pos (by omega), if_pos hq2]
         congr 1
         omega
       ·rw[if_neg (by omega),if_neg hq2,hat q hq]
   ·rw[if_neg hq,if_neg (by omega),if_neg (by omega),List.getElem?_eq_none (by omega)]
 · refine ⟨?_, fun m p hm => ?_⟩
   · rw [List.length_set]
     simp only[List.length_append,List.length_take,List.length_drop];rw[hr.1]at hseg ⊢;omega
   · have hml:m<xs.length:=by
      have:=(List.getElem?_eq_some_iff.1 hm).1
      rwa [List.length_set]at this
     have hmfit:m*d.sz+d.sz≤inner.length:=by rw[hr.1,← Nat.succ_mul];exact Nat.mul_le_mul_right _ hml
     have hgo:some g=(Value.slice (some ⟨g,off*d.sz,none⟩) n cap).ownBlock:=by simp[Value.ownBlock]
     by_cases hmi:m=i.toNat
     · subst hmi
       rw[List.getElem?_set_self (by omega)]at hm
       injection hm with hm
       subst hm
       have hcells:((inner.take (i.toNat*d.sz+j)++seg++inner.drop (i.toNat*d.sz+j+seg.length)).drop (i.toNat*d.sz)).take d.sz=c.take j++seg++c.drop (j+seg.length):=by
        apply List.ext_getElem?;intro q;rw[List.getElem?_take,List.getElem?_drop,ft inner seg _ (by omega),ft c seg j (by omega) q]
        by_cases hq:q<d.sz
        · rw [if_pos hq, hcin q hq]
          by_cases hq1:q<j
          ·rw[if_pos (by omega),if_pos hq1]
          · rw [if_neg (by omega), if_neg hq1]
            by_cases hq2:q<j+seg.length
            · rw [if_pos (by omega), if_pos hq2]
              congr 1
              omega
            ·rw[if_neg (by omega),if_neg hq2]
        ·rw[if_neg hq,if_neg (by omega),if_neg (by omega),List.getElem?_eq_none (by omega)]
       rw[hcells];refine d.M_mono (fun k hk=>?_) (d.M_move (w1:=W.setCells g (off*d.sz+i.toNat*d.sz+j) seg) (fun k hk=>hfar k (hokp k hk).2) hM);exact⟨(hokp k hk).1,fun he=>(hokp k hk).2 (by rw[← hgo]at he;injection he)⟩
     · rw [List.getElem?_set_ne (by omega)] at hm
       have hold:=hr.2 m p hm
       have hcells:((inner.take (i.toNat*d.sz+j)++seg++inner.drop (i.toNat*d.sz+j+seg.length)).drop (m*d.sz)).take d.sz=(inner.drop (m*d.sz)).take d.sz:=by
        apply List.ext_getElem?;intro q;rw[List.getElem?_take,List.getElem?_take,List.getElem?_drop,List.getElem?_drop,ft inner seg _ (by omega)]
        by_cases hq:q<d.sz
        · rw [if_pos hq, if_pos hq]
          rcases Nat.lt_or_gt_of_ne hmi with hlt|hgt
          · have : m * d.sz + d.sz ≤ i.toNat * d.sz := by rw [← Nat.succ_mul]; exact Nat.mul_le_mul_right _ hlt
            rw[if_pos (by omega)]
          · have : i.toNat * d.sz + d.sz ≤ m * d.sz := by rw [← Nat.succ_mul]; exact Nat.mul_le_mul_right _ hgt
            rw[if_neg (by omega),if_neg (by omega)]
        ·rw[if_neg hq,if_neg hq]
       rw[hcells];refine d.M_move (fun k hk=>hfar k (fun he=>hk.2 (by rw[he];exact hgo))) hold
end
section
variable {α:Type} {enc:α→Value} {h1:∀ x,(enc x).oneCell'=true} {e base g o n cap:Nat} {ok:Nat→Prop} {W:World} {xs:List α}
theorem sL(d:α)(h:(dP enc h1).Q e W base ok (.slice (some ⟨g,o,none⟩) n cap) xs)(i:Int)(h0:0≤i)(hi:i<n): W.cell? ⟨g,o+i.toNat,none⟩=some (enc (bn d xs i))∧W.frozen? ⟨g,o+i.toNat,none⟩=false:=by
 obtain⟨c,_,hM,hcc,hf⟩:=pD h d i h0 hi;have hM':c=[enc (xs.getD i.toNat d)]:=hM;subst hM';have h2:=hcc 0 _ rfl;have h3:=hf 0;rw[show(dP enc h1).sz=1 from rfl,Nat.mul_one,Nat.add_zero]at h2 h3;exact⟨h2,h3⟩
theorem sC(h:(dP enc h1).Q e W base ok (.slice (some ⟨g,o,none⟩) n cap) xs)(i:Int)(h0:0≤i)(hi:i<n)(x:α): (dP enc h1).Q e (W.setCell ⟨g,o+i.toNat,none⟩ (enc x)) base ok (.slice (some ⟨g,o,none⟩) n cap) (xs.set i.toNat x)∧W.grownBy (W.setCell ⟨g,o+i.toNat,none⟩ (enc x)) (some g):=by
 have hp:0<xs.length:=by have:=(kg h).1;omega
 obtain⟨c,hcl,_,hcc,_⟩:=pD h (xs[0]'hp) i h0 hi
 have h2:=so h i h0 hi (c:=c) (seg:=[enc x]) (j:=0) (okp:=fun _=>False) (x':=x) hcl hcc (Nat.le_refl 1) (by
  have hl:c.length=1:=hcl;show c.take 0 ++ [enc x]++c.drop (0+1)=[enc x];rw[List.drop_eq_nil_of_le (by omega)]
  rfl) (fun _ hk=>hk.elim)
 rw[show(dP enc h1).sz=1 from rfl,Nat.mul_one,Nat.add_zero]at h2;exact h2
end
end Kd
end Go.Proofs.YtiegkjimpclmaaaGreatDoorW.PrintWords
namespace Go.Proofs.YtiegkjimpclmaaaGreatDoorW.PrintWords
open Go.RowKit
namespace Kd
def tag{α:Type}(f:Nat→Nat)(d:Kd α): Kd (α×Nat) where
 sz:=d.sz
 E:=d.E
 K:=fun w x cs=>d.K w x.1 cs
 M:=fun w base ok x cs=>d.M w base (fun k=>ok k∧f k=x.2) x.1 cs
 K_len:=fun h=>d.K_len h
 K_one:=fun h=>d.K_one h
 K_below:=fun hb h=>d.K_below hb h
 K_of_M:=fun h=>d.K_of_M h
 M_mono:=fun hok h=>d.M_mono (fun k hk=>⟨hok k hk.1,hk.2⟩) h
 M_bound:=fun h=>d.M_mono (fun _ hk=>⟨⟨hk.1.1,hk.2⟩,hk.1.2⟩) (d.M_bound h)
 M_move:=fun hm h=>d.M_move (fun k hk=>hm k hk.1) h
 M_lower:=fun hb h=>d.M_lower hb h
def raw(sz:Nat): Kd (List Value) where
 sz:=sz
 E:=[]
 K:=fun _ x cs=>cs=x∧cs.length=sz∧∀ u∈cs,u.oneCell'=true
 M:=fun _ _ _ x cs=>cs=x∧cs.length=sz∧∀ u∈cs,u.oneCell'=true
 K_len:=fun h=>h.2.1
 K_one:=fun h=>h.2.2
 K_below:=fun _ h=>h
 K_of_M:=fun h=>h
 M_mono:=fun _ h=>h
 M_bound:=fun h=>h
 M_move:=fun _ h=>h
 M_lower:=fun _ h=>h
def S{α:Type}(d:Kd α)(e:Nat)(w:World)(base:Nat)(ok:Nat→Prop)(v:Value)(xs:List α): Prop:=∃ f,(tag f d).R e w base ok v xs.zipIdx
section
variable {α β:Type} {d:Kd α} {d':Kd β} {e e':Nat} {w w1 W:World} {base b:Nat} {ok ok' okv oku:Nat→Prop} {u v:Value} {xs:List α} {ys:List β}
theorem gQ{xs:List α}{j:Nat}{p:α}(h:xs[j]? = some p): xs.zipIdx[j]? = some (p,j):=by rw[List.getElem?_zipIdx,h,Nat.zero_add];rfl
theorem S_R(h:S d e w base ok v xs): d.R e w base ok v xs:=by
 obtain⟨f,h0,inner,ho,hr⟩:=h;rw[List.length_zipIdx]at ho;exact⟨h0,inner,ho,by have:=hr.1;rw[List.length_zipIdx]at this;exact this,fun j p hj=>d.M_mono (fun _ hk=>hk.1) (hr.2 j (p,j) (gQ hj))⟩
theorem rB{ad:Addr}{n cap:Nat}(h:d.R e w base ok (.slice (some ad) n cap) xs): ∃ g,ad=⟨g,0,none⟩:=by
 obtain⟨_,inner,ho,hr⟩:=h
 rcases ho.2 with⟨hv,_⟩|⟨g,cap',cur,hv,_⟩
 ·cases hv
 · injection hv with ha _ _
   injection ha with ha
   exact⟨g,ha⟩
theorem rz{ad:Addr}{n cap:Nat}(h:d.R e W base ok (.slice (some ad) n cap) xs)(z:α)(i:Int)(h0:0≤i)(h1:i<n):
 ∃ c,c.length=d.sz∧d.M W base (fun k=>ok k∧some k≠(Value.slice (some ad) n cap).ownBlock) (xs.getD i.toNat z) c∧∀ j u,c[j]? = some u→W.cell? (ad.add (i.toNat*d.sz+j))=some u:=by
 obtain⟨g,rfl⟩:=rB h;obtain⟨c,hcl,hM,hcc,_⟩:=mW h z i h0 h1;refine⟨c,hcl,d.M_mono (fun k hk=>⟨hk.1,fun he=>hk.2 (by simpa [Value.ownBlock]using he)⟩) hM,fun j u hu=>?_⟩;rw[nj,Nat.zero_add];exact hcc j u hu
theorem R_tight(hE:d.E=[])(h:d.R e w base ok v xs): d.R e w base (fun k=>some k=v.ownBlock) v xs:=by
 obtain⟨h0,inner,ho,hr⟩:=h;refine⟨fun k hk=>hk.symm,inner,ho,hr.imp_ (fun p c hp=>d.M_mono (fun k hk=>?_) (d.M_bound hp))⟩;obtain⟨_,_,_,q,hq,_⟩:=hk;rw[hE]at hq;cases hq
theorem S_nil(d:Kd α)(e:Nat)(w:World)(base:Nat)(ok:Nat→Prop): S d e w base ok (.slice none 0 0) []:=⟨fun _=>0,R_nil _ _ _ _ _⟩
theorem S_mono(h:S d e w base ok v xs)(hok:∀ k,ok k→ok' k): S d e w base ok' v xs:=by
 obtain⟨f,h⟩:=h;exact⟨f,R_mono h hok⟩
theorem qE(h:S d e w base ok v xs): S d e w base (fun k=>ok k∧base≤k∧k<w.heap.size∧∃ q,q∈e::d.E∧∃ cells,w.heap[k]? = some (.cells cells q (0,0))) v xs:=by
 obtain⟨f,h⟩:=h;exact⟨f,R_bound h⟩
theorem rA(h:S d e w base ok v xs)(hm:∀ k,ok k→w1.heap[k]? = w.heap[k]?): S d e w1 base ok v xs:=by
 obtain⟨f,h⟩:=h;exact⟨f,iR h hm⟩
theorem S_lower{base':Nat}(h:S d e w base ok v xs)(hb:base'≤base): S d e w base' ok v xs:=by
 obtain⟨f,h⟩:=h;exact⟨f,R_lower h hb⟩
theorem nf(h:S d e w base ok v xs)(hm:∀ k,ok k→k<w.heap.size→w1.heap[k]? = w.heap[k]?): S d e w1 base ok v xs:=
 S_mono (rA (qE h) (fun k hk=>hm k hk.1 hk.2.2.1)) (fun _ hk=>hk.1)
theorem S_below(h:S d e w base ok v xs)(hb:Below w.heap.size w w1): S d e w1 base ok v xs:=nf h (fun k _ hk=>hb.block k hk)
theorem S_alloc(h:S d e w base ok v xs)(o:Obj): S d e (w.alloc o) base ok v xs:=S_below h (bF (Below.refl _ _) o)
theorem S_drew(h:S d e w base ok v xs): S d e w.drew base ok v xs:=S_below h (eV (Below.refl _ _))
theorem S_drewN(h:S d e w base ok v xs)(m:Nat): S d e (w.drewN m) base ok v xs:=S_below h (bv (Below.refl _ _) m)
theorem S_far(h:S d e w base ok v xs){p:Addr}(hok:∀ k,ok k→k≠p.block)(u:Value): S d e (w.setCell p u) base ok v xs:=nf h (fun k ho _=>Below.heap_setCell w p u k (hok k ho))
theorem S_keep(h:S d e w base ok v xs){g:Nat}(hk:aJ w w1 g none)(hok:∀ k,ok k→k≠g): S d e w1 base ok v xs:=nf h (fun k ho hlt=>hk.2 k hlt (hok k ho) (by simp))
theorem S_types(h:S d e w base ok v xs){g t:Nat}{cells:Array Value}(hb:w.heap[g]? = some (.cells cells t (0,0)))(ht:∀ q,q∈e::d.E→q≠t): S d e w base (fun k=>ok k∧k≠g) v xs:=by
 obtain⟨f,h⟩:=h;exact⟨f,R_types h hb ht⟩
theorem S_typed(h:S d e w base ok v xs): ∀ k,v.ownBlock=some k→∃ cells,w.heap[k]? = some (.cells cells e (0,0)):=R_typed (S_R h)
theorem S_lt(h:S d e w base ok v xs): ∀ k,v.ownBlock=some k→k<w.heap.size:=R_lt (S_R h)
theorem S_elder'(h:S d e W base ok u xs)(hbase:∀ k,v.ownBlock=some k→W.heap.size≤k)(hb:Below W.heap.size W w1): S d e w1 base (fun k=>ok k∧some k≠v.ownBlock) u xs:=by
 obtain⟨f,h⟩:=h;exact⟨f,R_elder' h hbase hb⟩
theorem sv{f f':Nat→Nat}{zs:List (α×Nat)}(h:(tag f d).R e w base ok v zs)(hf:∀ k,ok k→k<w.heap.size→f' k=f k): (tag f' d).R e w base ok v zs:=by
 obtain⟨h0,inner,ho,hr⟩:=R_bound h;exact⟨fun k hk=>(h0 k hk).1,inner,ho,hr.1,fun j p hj=>d.M_mono (fun k hk=>⟨⟨hk.1.1.1,hk.1.2⟩,(hf k hk.1.1.1 hk.1.1.2.2.1).trans hk.2⟩) (hr.2 j p hj)⟩
end
section
variable {α β:Type} {d:Kd α} {d':Kd β} {e e' g:Nat} {w w1 W:World} {base b:Nat} {ok ok' okv oku:Nat→Prop} {u v:Value} {xs:List α} {ys:List β}
theorem S_ne(h:S d e w base ok v xs){t:Nat}{cells:Array Value}(hb:w.heap[g]? = some (.cells cells t (0,0)))(ht:e≠t): some g≠v.ownBlock:=R_ne (S_R h) hb ht
theorem S_form(h:S d e w base ok v xs)(hp:0<xs.length): ∃ g cap,v = .slice (some ⟨g,0,none⟩) xs.length cap∧base≤g∧g<w.heap.size∧∃ cells,w.heap[g]? = some (.cells cells e (0,0)):=R_form (S_R h) hp
theorem S_slice(h:S d e w base ok v xs): ∃ A c,v = .slice A xs.length c:=R_slice (S_R h)
theorem S_reads'{A:Option Addr}{n c:Nat}(h:S d e w base ok (.slice A n c) xs): n=xs.length∧n≤c∧d.C w A xs.length xs:=R_reads' (S_R h)
theorem S_get{ad:Addr}{n cap:Nat}(h:S d e W base ok (.slice (some ad) n cap) xs)(z:α)(i:Int)(h0:0≤i)(h1:i<n):
 ∃ c,c.length=d.sz∧d.M W base (fun k=>ok k∧some k≠(Value.slice (some ad) n cap).ownBlock) (xs.getD i.toNat z) c∧∀ j u,c[j]? = some u→W.cell? (ad.add (i.toNat*d.sz+j))=some u:=rz (S_R h) z i h0 h1
theorem pF(xs:List α)(p:α): (xs ++ [p]).zipIdx=xs.zipIdx ++ [(p,xs.length)]:=by rw[List.zipIdx_append];simp
end
section
open Classical in
theorem sj{α:Type}{d:Kd α}{e base:Nat}{okv:Nat→Prop}{w:World}{v:Value}{xs:List α}(h:S d e w base okv v xs)(m:Nat)(okp:Nat→Prop)(hap:∀ k,okp k→¬ okv k): ∃ f,(∀ k,okp k→f k=m)∧(tag f d).R e w base okv v xs.zipIdx:=by
 obtain⟨f,h⟩:=h;exact⟨fun k=>if okp k then m else f k,fun k hk=>if_pos hk,sv h (fun k hk _=>if_neg (fun h2=>hap k h2 hk))⟩
variable {P:Program} {ops:Array Oper} {rest:List Oper} {o:Oper} {a:Act} {Q:Exit→Act→World→Prop} {Kc:Act→World→Prop} {α:Type}
theorem S_append(d:Kd α){w0 W:World}(base:Nat)(hgd:o.guard=none)(s x:Operand)(t e:TypeId)(z:Value)(bytes:Nat)
 (ho:o.op = .call { callee:=.builtin .append,args:=#[s,x],argTypes:=#[t,t] })
 (ht:P.underlying t=some (.slice e)) (hinfo:(P.info? e).map (fun i=>(i.zero,i.size,i.bytes))=some (some z,d.sz,bytes)) (hz:z.cells.size=d.sz) (hs0:0<d.sz) (hb0:0<bytes)
 (v:Value) (xs:List α) (p:α) (cs:List Value) (ok okp:Nat→Prop) (hs:a.eval s=v) (hx:a.eval x = .slice (some ⟨W.heap.size,0,none⟩) 1 1) (hp:d.M W base okp p cs) (hokp:∀ k,okp k→ok k∧some k≠v.ownBlock) (hfresh:∀ k,W.heap.size≤k→ok k)
 (HO:S d e W base (fun k=>ok k∧¬ okp k) v xs) (HB:Below base w0 W) (hbase:base≤W.heap.size) (hl:(xs.length+1)*bytes≤140737488355328)
 (h:∀ v1 w1,S d e w1 base ok v1 (xs ++ [p])→Below base w0 w1→W.grownBy w1 v.ownBlock→(v1.ownBlock=v.ownBlock∨∃ b,v1.ownBlock=some b∧W.heap.size≤b)→wpList P ops Q rest (a.put o.dst v1) w1) :
 wpList P ops Q (o::rest) a (W.alloc (.cells cs.toArray e)):=by
 obtain⟨f,hf,hR⟩:=sj HO xs.length okp (fun _ hk h2=>h2.2 hk)
 refine R_append (tag f d) base hgd s x t e z bytes ho ht hinfo hz hs0 hb0 v xs.zipIdx (p,xs.length) cs ok okp hs hx (d.M_mono (fun k hk=>⟨hk,hf k hk⟩) hp) hokp hfresh (R_mono hR (fun _ hk=>hk.1)) HB hbase (by rw[List.length_zipIdx];exact hl) ?_
 intro v1 w1 hr;rw[← pF]at hr;exact h v1 w1 ⟨f,hr⟩
end
def gap{α:Type}(f:Nat→Nat)(d:Kd α)(i:Nat)(c:List Value): Kd (α×Nat) where
 sz:=d.sz
 E:=d.E
 K:=fun w x cs=>(x.2=i→cs=c∧cs.length=d.sz∧∀ u∈cs,u.oneCell'=true)∧(x.2≠i→d.K w x.1 cs)
 M:=fun w base ok x cs=>(x.2=i→cs=c∧cs.length=d.sz∧∀ u∈cs,u.oneCell'=true)∧(x.2≠i→d.M w base (fun k=>ok k∧f k=x.2) x.1 cs)
 K_len:=fun {w x cs} h=>by
  by_cases hx:x.2=i
  ·exact(h.1 hx).2.1
  ·exact d.K_len (h.2 hx)
 K_one:=fun {w x cs} h=>by
  by_cases hx:x.2=i
  ·exact(h.1 hx).2.2
  ·exact d.K_one (h.2 hx)
 K_below:=fun hb h=>⟨h.1,fun hx=>d.K_below hb (h.2 hx)⟩
 K_of_M:=fun h=>⟨h.1,fun hx=>d.K_of_M (h.2 hx)⟩
 M_mono:=fun hok h=>⟨h.1,fun hx=>d.M_mono (fun k hk=>⟨hok k hk.1,hk.2⟩) (h.2 hx)⟩
 M_bound:=fun h=>⟨h.1,fun hx=>d.M_mono (fun _ hk=>⟨⟨hk.1.1,hk.2⟩,hk.1.2⟩) (d.M_bound (h.2 hx))⟩
 M_move:=fun hm h=>⟨h.1,fun hx=>d.M_move (fun k hk=>hm k hk.1) (h.2 hx)⟩
 M_lower:=fun hb h=>⟨h.1,fun hx=>d.M_lower hb (h.2 hx)⟩
def H{α:Type}(d:Kd α)(e:Nat)(w:World)(base:Nat)(ok:Nat→Prop)(v:Value)(xs:List α)(i:Int)(oki:Nat→Prop)(c:List Value): Prop:=
 (∀ k,oki k→ok k)∧∃ f,(gap f d i.toNat c).R e w base (fun k=>ok k∧¬ oki k) v xs.zipIdx
section
variable {α β:Type} {d:Kd α} {e e' g n cap:Nat} {w w1 W:World} {base:Nat} {ok ok' oki okp:Nat→Prop} {u v:Value} {xs:List α} {i:Int} {c:List Value}
theorem rH(h:S d e W base ok (.slice (some ⟨g,0,none⟩) n cap) xs)(z:α)(i:Int)(h0:0≤i)(h1:i<n):
 ∃ (oki:Nat→Prop) (c:List Value),c.length=d.sz∧d.M W base oki (xs.getD i.toNat z) c∧(∀ j u,c[j]? = some u→W.cell? ⟨g,i.toNat*d.sz+j,none⟩=some u)∧(∀ k,oki k→ok k∧k≠g)∧H d e W base ok (.slice (some ⟨g,0,none⟩) n cap) xs i oki c:=by
 obtain⟨f,hR⟩:=h;have hn:=(R_reads' hR).1;rw[List.length_zipIdx]at hn
 have hgo:some g=(Value.slice (some ⟨g,0,none⟩) n cap).ownBlock:=by simp[Value.ownBlock]
 obtain⟨hok0,inner,ho,hr⟩:=hR
 have hil:i.toNat<xs.length:=by omega
 have hlen:inner.length=xs.length*d.sz:=by have:=hr.1;rw[List.length_zipIdx]at this;exact this
 have hseg:i.toNat*d.sz+d.sz≤inner.length:=by rw[hlen,← Nat.succ_mul];exact Nat.mul_le_mul_right _ hil
 have hM:=hr.2 i.toNat _ (gQ (List.getElem?_eq_getElem hil))
 have hkg:∀ k,some k≠(Value.slice (some ⟨g,0,none⟩) n cap).ownBlock→k≠g:=fun k hk he=>hk (by rw[he];exact hgo)
 refine⟨fun k=>(ok k∧k≠g)∧f k=i.toNat,(inner.drop (i.toNat*d.sz)).take d.sz,by rw[List.length_take,List.length_drop];omega,?_,fun j u hu=>?_,fun k hk=>hk.1,fun k hk=>hk.1.1,f,fun k hk=>⟨hok0 k hk,fun h2=>h2.1.2 ?_⟩,inner,ho,hr.1,fun m p hm=>?_⟩
 · rw [List.getD_eq_getElem?_getD, List.getElem?_eq_getElem hil]
   exact d.M_mono (fun k hk=>⟨⟨hk.1.1,hkg k hk.1.2⟩,hk.2⟩) hM
 · rw [List.getElem?_take] at hu
   split at hu
   · rw [List.getElem?_drop] at hu
     have:=ho.cells (g:=g) hgo.symm _ u hu
     rwa [dj]at this
   ·cases hu
 ·rw[← hgo]at hk;injection hk with hk;exact hk.symm
 · have hold := hr.2 m p hm
   have hp2:p.2=m:=by
    rw[List.getElem?_zipIdx,Nat.zero_add]at hm;obtain⟨q,_,rfl⟩:=Option.map_eq_some_iff.1 hm;rfl
   refine⟨fun hx=>?_,fun hx=>d.M_mono (fun k hk=>⟨⟨⟨hk.1.1,fun h2=>hx ?_⟩,hk.1.2⟩,hk.2⟩) hold⟩
   · have hmi : m = i.toNat := by omega
     subst hmi;exact⟨rfl,d.K_len (d.K_of_M hM),d.K_one (d.K_of_M hM)⟩
   ·rw[← hk.2];exact h2.2
open Classical in
theorem rL(h:H d e w base ok v xs i oki c){x':α}(hM:d.M w base okp x' c)(hok:∀ k,okp k→oki k): S d e w base ok v (xs.set i.toNat x'):=by
 obtain⟨ho,f,h0,inner,hown,hr⟩:=h;refine⟨fun k=>if oki k then i.toNat else f k,fun k hk=>(h0 k hk).1,inner,by rw[List.length_zipIdx,List.length_set];rw[List.length_zipIdx]at hown;exact hown,by have:=hr.1;rw[List.length_zipIdx]at this;rw[List.length_zipIdx,List.length_set];exact this,fun m p hm=>?_⟩;rw[List.getElem?_zipIdx,Nat.zero_add]at hm;obtain⟨q,hq,rfl⟩:=Option.map_eq_some_iff.1 hm
 have hml:m<xs.length:=by
  have:=(List.getElem?_eq_some_iff.1 hq).1
  rwa [List.length_set]at this
 by_cases hmi:m=i.toNat
 · subst hmi
   rw[List.getElem?_set_self hml]at hq
   injection hq with hq
   subst hq;have hc:=((hr.2 i.toNat _ (gQ (List.getElem?_eq_getElem hml))).1 rfl).1;show d.M w base _ x' ((inner.drop (i.toNat*d.sz)).take d.sz);rw[show(inner.drop (i.toNat*d.sz)).take d.sz=c from hc];exact d.M_mono (fun k hk=>⟨⟨ho k (hok k hk),fun he=>(h0 k he.symm).2 (hok k hk)⟩,if_pos (hok k hk)⟩) hM
 · rw [List.getElem?_set_ne (Ne.symm hmi)] at hq
   exact d.M_mono (fun k hk=>⟨⟨hk.1.1.1,hk.1.2⟩,(if_neg hk.1.1.2).trans hk.2⟩) ((hr.2 m (q,m) (gQ hq)).2 hmi)
theorem H_widen(h:H d e w base ok v xs i oki c): H d e w base ok v xs i (fun k=>oki k∨ok k∧w.heap.size≤k) c:=by
 obtain⟨ho,f,h⟩:=h;exact⟨fun k hk=>hk.elim (ho k) (fun h2=>h2.1),f,R_mono (R_bound h) (fun k hk=>⟨hk.1.1,fun h2=>h2.elim hk.1.2 (fun h3=>by have:=hk.2.2.1;omega)⟩)⟩
theorem pG(h:H d e w base ok v xs i oki c)(hm:∀ k,ok k→¬ oki k→k<w.heap.size→w1.heap[k]? = w.heap[k]?): H d e w1 base ok v xs i oki c:=by
 obtain⟨ho,f,h⟩:=h;exact⟨ho,f,kd h (fun k hk hlt=>hm k hk.1 hk.2 hlt)⟩
theorem H_grown(h:H d e w base ok v xs i oki c){row:Option Nat}(hg:w.grownBy w1 row)(hrow:∀ k,row=some k→oki k): H d e w1 base ok v xs i oki c:=
 pG h (fun k _ hn hlt=>hg.block k hlt (fun he=>hn (hrow k he.symm)))
theorem lM(h:H d e w base ok v xs i oki c)(hb:Below w.heap.size w w1): H d e w1 base ok v xs i oki c:=pG h (fun k _ _ hlt=>hb.block k hlt)
theorem H_alloc(h:H d e w base ok v xs i oki c)(o:Obj): H d e (w.alloc o) base ok v xs i oki c:=lM h (bF (Below.refl _ _) o)
theorem H_drew(h:H d e w base ok v xs i oki c): H d e w.drew base ok v xs i oki c:=lM h (eV (Below.refl _ _))
theorem H_drewN(h:H d e w base ok v xs i oki c)(m:Nat): H d e (w.drewN m) base ok v xs i oki c:=lM h (bv (Below.refl _ _) m)
theorem rG(h:H d e w base ok v xs i oki c)(hok:∀ k,ok k→ok' k): H d e w base ok' v xs i oki c:=by
 obtain⟨ho,f,h⟩:=h;exact⟨fun k hk=>hok k (ho k hk),f,R_mono h (fun k hk=>⟨hok k hk.1,hk.2⟩)⟩
theorem rE{okg:Nat→Prop}(h:H d e w base (fun k=>ok k∧¬ okg k) v xs i oki c)(hg:∀ k,okg k→ok k): H d e w base ok v xs i (fun k=>oki k∨okg k) c:=by
 obtain⟨ho,f,h⟩:=h;exact⟨fun k hk=>hk.elim (fun h2=>(ho k h2).1) (hg k),f,R_mono h (fun k hk=>⟨hk.1.1,fun h2=>h2.elim hk.2 hk.1.2⟩)⟩
theorem S_elem(h:S d e W base ok (.slice (some ⟨g,0,none⟩) n cap) xs)(z:α)(i:Int)(h0:0≤i)(h1:i<n):
 ∃ (oki:Nat→Prop) (c:List Value),c.length=d.sz∧d.M W base oki (xs.getD i.toNat z) c∧(∀ j u,c[j]? = some u→W.cell? ⟨g,i.toNat*d.sz+j,none⟩=some u)∧(∀ j,W.frozen? ⟨g,i.toNat*d.sz+j,none⟩=false)∧(∀ k,oki k→ok k∧k≠g)∧H d e W base ok (.slice (some ⟨g,0,none⟩) n cap) xs i oki c:=by
 obtain⟨_,_,_,_,hfr⟩:=mW (S_R h) z i h0 h1;obtain⟨oki,c,hcl,hM,hcc,hoki,hH⟩:=rH h z i h0 h1;exact⟨oki,c,hcl,hM,hcc,hfr,hoki,hH⟩
theorem H_raw(h:H d e W base ok (.slice (some ⟨g,0,none⟩) n cap) xs i oki c)(h0:0≤i)(h1:i<n):
 ∃ rows:List (List Value),rows.length=xs.length∧(raw d.sz).R e W base (fun _=>True) (.slice (some ⟨g,0,none⟩) n cap) rows∧c.length=d.sz∧(∀ u∈c,u.oneCell'=true)∧(∀ j u,c[j]? = some u→W.cell? ⟨g,i.toNat*d.sz+j,none⟩=some u) ∧
  ∀ w1 c',W.grownBy w1 (some g)→(raw d.sz).R e w1 base (fun _=>True) (.slice (some ⟨g,0,none⟩) n cap) (rows.set i.toNat c')→H d e w1 base ok (.slice (some ⟨g,0,none⟩) n cap) xs i oki c':=by
 obtain⟨hoo,f,hR⟩:=h;have hn:=(R_reads' hR).1;rw[List.length_zipIdx]at hn
 have hgo:some g=(Value.slice (some ⟨g,0,none⟩) n cap).ownBlock:=by simp[Value.ownBlock]
 obtain⟨hok0,inner,ho,hr⟩:=hR
 have hil:i.toNat<xs.length:=by omega
 have hlen:inner.length=xs.length*d.sz:=by have:=hr.1;rw[List.length_zipIdx]at this;exact this
 have hkg:∀ k,some k≠(Value.slice (some ⟨g,0,none⟩) n cap).ownBlock→k≠g:=fun k hk he=>hk (by rw[he];exact hgo)
 have hci:=(hr.2 i.toNat _ (gQ (List.getElem?_eq_getElem hil))).1 rfl;rw[hci.1]at hci;have hc:=((hr.2 i.toNat _ (gQ (List.getElem?_eq_getElem hil))).1 rfl).1;refine⟨(List.range xs.length).map fun j=>(inner.drop (j*d.sz)).take d.sz,by rw[List.length_map,List.length_range],⟨fun _ _=>trivial,inner,?_,?_,fun j p hj=>?_⟩,hci.2.1,hci.2.2,fun j u hu=>?_,fun w1 c' hg hraw=>?_⟩
 ·rw[List.length_map,List.length_range];rw[List.length_zipIdx]at ho;exact ho
 ·rw[List.length_map,List.length_range];exact hlen
 · rw [List.getElem?_map] at hj
   obtain⟨j',hj',rfl⟩:=Option.map_eq_some_iff.1 hj
   obtain⟨hl,he⟩:=List.getElem?_eq_some_iff.1 hj'
   rw[List.getElem_range]at he;subst he;rw[List.length_range]at hl;have hm:=(gap f d i.toNat c).K_of_M (hr.2 j _ (gQ (List.getElem?_eq_getElem hl)));exact⟨rfl,(gap f d i.toNat c).K_len hm,(gap f d i.toNat c).K_one hm⟩
 · rw [← hc, List.getElem?_take] at hu
   split at hu
   · rw [List.getElem?_drop] at hu
     have:=ho.cells (g:=g) hgo.symm _ u hu
     rwa [dj]at this
   ·cases hu
 · obtain ⟨_, inner', ho', hr'⟩ := hraw
   have hl':inner'.length=xs.length*d.sz:=by have:=hr'.1;rw[List.length_set,List.length_map,List.length_range]at this;exact this
   rw[List.length_set,List.length_map,List.length_range]at ho';refine⟨hoo,f,hok0,inner',by rw[List.length_zipIdx];exact ho',by rw[List.length_zipIdx];exact hl',fun m p hm=>?_⟩;rw[List.getElem?_zipIdx,Nat.zero_add]at hm;obtain⟨q,hq,rfl⟩:=Option.map_eq_some_iff.1 hm;have hml:m<xs.length:=(List.getElem?_eq_some_iff.1 hq).1;have hold:=hr.2 m (q,m) (gQ hq);refine⟨fun hx=>?_,fun hx=>?_⟩
   · have hx' : m = i.toNat := hx
     subst hx';exact hr'.2 i.toNat c' (List.getElem?_set_self (by rw[List.length_map,List.length_range];exact hml))
   · have hx' : m ≠ i.toNat := hx
     have hcm:=(hr'.2 m ((inner.drop (m*d.sz)).take d.sz) (by
      rw[List.getElem?_set_ne (Ne.symm hx'),List.getElem?_map,List.getElem?_eq_getElem (by rw[List.length_range];exact hml),List.getElem_range]
      rfl)).1
     show d.M w1 base _ q ((inner'.drop (m*d.sz)).take d.sz);rw[show(inner'.drop (m*d.sz)).take d.sz=_ from hcm];exact d.M_mono (fun k hk=>hk.1) (d.M_move (w1:=w1) (fun k hk=>hg.block k hk.2.2.1 (fun he=>hkg k hk.1.1.2 (by injection he))) (d.M_bound (hold.2 hx)))
theorem sk(h:H d e W base ok (.slice (some ⟨g,0,none⟩) n cap) xs i oki c)(h0:0≤i)(h1:i<n){seg:List Value}{j:Nat}(hj:j+seg.length≤d.sz)(hone:∀ q∈seg,q.oneCell'=true):
 H d e (W.setCells g (i.toNat*d.sz+j) seg) base ok (.slice (some ⟨g,0,none⟩) n cap) xs i oki (c.take j++seg++c.drop (j+seg.length))∧W.grownBy (W.setCells g (i.toNat*d.sz+j) seg) (some g):=by
 obtain⟨rows,_,hraw,hcl,hco,hcc,hback⟩:=H_raw h h0 h1
 obtain⟨h2,h3⟩:=sf hraw i h0 h1 (c:=c) (seg:=seg) (j:=j) (x':=c.take j++seg++c.drop (j+seg.length)) (okp:=fun _=>False) hcl hcc hj
  ⟨rfl,by
   show(c.take j++seg++c.drop (j+seg.length)).length=d.sz
   simp only[List.length_append,List.length_take,List.length_drop];omega,fun u hu=>by
   rcases List.mem_append.1 hu with hu|hu
   · rcases List.mem_append.1 hu with hu | hu
     ·exact hco u (List.mem_of_mem_take hu)
     ·exact hone u hu
   ·exact hco u (List.mem_of_mem_drop hu)⟩ (fun _ hk=>hk.elim)
 exact⟨hback _ _ h3 h2,h3⟩
theorem sw{okg:Nat→Prop}(hH:H d e W base (fun k=>ok k∧¬ okg k) (.slice (some ⟨g,0,none⟩) n cap) xs i oki c)(h0:0≤i)(h1:i<n){seg:List Value}{j:Nat}(hj:j+seg.length≤d.sz)
 {x':α} (hM:d.M W base okp x' (c.take j++seg++c.drop (j+seg.length))) (hokp:∀ k,okp k→oki k∨okg k) (hg:∀ k,okg k→ok k∧k≠g) :
 S d e (W.setCells g (i.toNat*d.sz+j) seg) base ok (.slice (some ⟨g,0,none⟩) n cap) (xs.set i.toNat x')∧W.grownBy (W.setCells g (i.toNat*d.sz+j) seg) (some g):=by
 have hne:∀ k,oki k∨okg k→k≠g:=by
  intro k hk he;subst he
  rcases hk with hk|hk
  · obtain ⟨_, f, hR⟩ := hH
    exact(hR.1 k (by simp[Value.ownBlock])).2 hk
  ·exact(hg k hk).2 rfl
 obtain⟨h2,h3⟩:=sk (rE hH (fun k hk=>(hg k hk).1)) h0 h1 hj (fun q hq=>d.K_one (d.K_of_M hM) q (List.mem_append_left _ (List.mem_append_right _ hq)));exact⟨rL h2 (mK hM (fun k hk hlt=>h3.block k hlt (fun he=>hne k (hokp k hk) (by injection he)))) hokp,h3⟩
end
section
variable {P:Program} {ops:Array Oper} {rest:List Oper} {o:Oper} {a:Act} {Q:Exit→Act→World→Prop} {α:Type}
end
end Kd
end Go.Proofs.YtiegkjimpclmaaaGreatDoorW.PrintWords
namespace Go.Proofs.YtiegkjimpclmaaaGreatDoorW.PrintWords
open Go.RowKit
namespace Kd
section
variable {α:Type} {n:Nat} {d:Kd α} {hs:0<d.sz} {w:World} {base:Nat} {ok:Nat→Prop} {xs:List α} {cs:List Value}
end
section
variable {α:Type} {n:Nat} {enc:α→Value} {h1:∀ x,(enc x).oneCell'=true} {hs:0<(dP enc h1).sz} {w:World} {base:Nat} {ok:Nat→Prop} {xs:List α} {cs:List Value}
end
end Kd
end Go.Proofs.YtiegkjimpclmaaaGreatDoorW.PrintWords
namespace Go.Proofs.YtiegkjimpclmaaaGreatDoorW.PrintWords
open Go.RowKit
section
variable {P:Program} {d:Nat} {xs ys:Array Value} {f:Field} {fs:List Field} {a b:Value} {r s:Bool} {w:World}
theorem qb(hn:(f.name == "_")=false)(ha:(part f.type xs f.offset).run P w = .ok a w)(hb:(part f.type ys f.offset).run P w = .ok b w)(he:(Op.equalIn d f.type a b).run P w = .ok r w): (Op.eqFields d xs ys [f]).run P w = .ok r w:=by
 have hn':f.name ≠ "_" := by simpa using hn
 simp only[Op.eqFields,if_pos hn',Sem.run_bind,ha,hb,he,Result.andThen_ok]
 cases r<;>simp
theorem jJ(hn:(f.name == "_")=false)(ha:(part f.type xs f.offset).run P w = .ok a w)(hb:(part f.type ys f.offset).run P w = .ok b w)(he:(Op.equalIn d f.type a b).run P w = .ok r w)(hr:(Op.eqFields d xs ys fs).run P w = .ok s w): (Op.eqFields d xs ys (f::fs)).run P w = .ok (r&&s) w:=by
 have hn':f.name ≠ "_" := by simpa using hn
 rw[Op.eqFields];simp only[if_pos hn',Sem.run_bind,ha,hb,he,Result.andThen_ok];cases r
 ·simp
 ·simpa using hr
theorem ru{t:TypeId}{fs:Array Field}(hu:P.underlying t=some (.struct fs))(hp:P.stoodInHeld t=false)(h:(Op.eqFields d xs ys fs.toList).run P w = .ok r w): (Op.equalIn (d+1) t (.agg xs) (.agg ys)).run P w = .ok r w:=by
 have hf:P.fieldsOf t=fs:=by simp[Program.fieldsOf,hu]
 rw[run_equalIn_struct (P:=P) w d t xs ys (by rw[hf];exact hu) hp,hf];exact h
end
end Go.Proofs.YtiegkjimpclmaaaGreatDoorW.PrintWords
namespace Go.Proofs.YtiegkjimpclmaaaGreatDoorW.PrintWords
open Go.RowKit
section
variable {P:Program} {ops:Array Oper} {rest:List Oper} {o:Oper} {a:Act} {Q:Exit→Act→World→Prop} {W:World}
theorem bP(hw:Region.wanted o (yielded ops a.tmps)=true)(h:wpList P ops Q ({ o with guard:=none }::rest) a W): wpList P ops Q (o::rest) a W:=by
 have h1:Region.wanted { o with guard:=none } (yielded ops a.tmps)=true:=rfl;unfold wpList at h ⊢;rw[if_pos h1]at h;rw[if_pos hw];exact h
end
end Go.Proofs.YtiegkjimpclmaaaGreatDoorW.PrintWords
namespace Go.Proofs.YtiegkjimpclmaaaGreatDoorW.PrintLast
section
variable {P:Program} {ops:Array Oper} {Q:Exit→Act→World→Prop} {md:Region.Mode} {S:World→Prop} {ds:List Nat} {T:Bool×List (List Nat×List Nat)}
end
end Go.Proofs.YtiegkjimpclmaaaGreatDoorW.PrintLast
namespace Go.Proofs.YtiegkjimpclmaaaGreatDoorW.PrintLast
def up(b:Nat→Bool)(i:Nat): Nat→Bool:=fun j=>if j=i then true else b j
section
variable {P:Program} {ops:Array Oper} {Q:Exit→Act→World→Prop} {md:Region.Mode} {T:Bool×List (List Nat×List Nat)} {B:List Nat} {O:List Nat} {b:Nat→Bool} {i j n:Nat}
end
end Go.Proofs.YtiegkjimpclmaaaGreatDoorW.PrintLast
namespace Go.Proofs.YtiegkjimpclmaaaGreatDoorW.PrintWords
open Go.RowKit
section
variable {P:Program}
end
namespace Kd
section
variable {P:Program} {ops:Array Oper} {rest:List Oper} {o:Oper} {a:Act} {Q:Exit→Act→World→Prop} {Kc:Act→World→Prop} {α:Type}
end
section
variable {α:Type} {d:Kd α} {e:Nat} {w:World} {base:Nat} {ok:Nat→Prop} {v:Value} {xs:List α}
end
section
variable {P:Program} {ops:Array Oper} {rest:List Oper} {o:Oper} {a:Act} {Q:Exit→Act→World→Prop} {Kc:Act→World→Prop} {α:Type}
end
end Kd
end Go.Proofs.YtiegkjimpclmaaaGreatDoorW.PrintWords
namespace Go.Proofs.YtiegkjimpclmaaaGreatDoorW.PrintWords
open Go.RowKit
namespace Kd
structure rU {α:Type} (d:Kd α):Prop where
 K:∀ {w w1:World} {x:α} {cs:List Value},(∀ k,k<w.heap.size→w1.heap[k]? = w.heap[k]?)→d.K w x cs→d.K w1 x cs
theorem oX{w w1:World}(hb:∀ k,k<w.heap.size→w1.heap[k]? = w.heap[k]?){a:Addr}{v:Value}(h:w.cell? a=some v): w1.cell? a=some v:=by
 have:=hb a.block (World.block_lt_of_cell? w a h)
 simpa [World.cell?,this]using h
theorem rU.C{α:Type}{d:Kd α}(hd:rU d){w w1:World}{A:Option Addr}{n:Nat}{xs:List α}(hb:∀ k,k<w.heap.size→w1.heap[k]? = w.heap[k]?)(h:d.C w A n xs): d.C w1 A n xs:=
 ⟨h.1,h.2.1,fun hn=>by
  obtain⟨ad,e,hc⟩:=h.2.2 hn;refine⟨ad,e,fun j p hj=>?_⟩;obtain⟨c,hs,hr,hcell⟩:=hc j p hj;exact⟨c,hs,hd.K hb hr,fun i u hu=>oX hb (hcell i u hu)⟩⟩
section
variable {α:Type} {d:Kd α} {e base g n c:Nat} {ok:Nat→Prop} {w w0 W:World} {A:Option Addr} {xs:List α}
end
end Kd
end Go.Proofs.YtiegkjimpclmaaaGreatDoorW.PrintWords
namespace Go.Proofs.YtiegkjimpclmaaaGreatDoorW.PrintWords
open Go.RowKit
def cW(w W:World)(S:Nat→Prop): Prop:=w.heap.size≤W.heap.size∧∀ i,i<w.heap.size→¬ S i→W.heap[i]? = w.heap[i]?
section
variable {w W W2:World} {S S2 S':Nat→Prop}
theorem cW.refl(w:World)(S:Nat→Prop): cW w w S:=⟨Nat.le_refl _,fun _ _ _=>rfl⟩
theorem cW.of_below(h:Below w.heap.size w W)(S:Nat→Prop): cW w W S:=⟨h.size,fun i hi _=>h.block i hi⟩
theorem cW.mono(h:cW w W S)(hs:∀ k,S k→S' k): cW w W S':=⟨h.1,fun i hi hn=>h.2 i hi (fun hk=>hn (hs i hk))⟩
theorem cW.then_(h:cW w W S)(k:cW W W2 S2)(hs:∀ k,S2 k→S k∨w.heap.size≤k): cW w W2 S:=
 ⟨Nat.le_trans h.1 k.1,fun i hi hn=>(k.2 i (Nat.lt_of_lt_of_le hi h.1) (fun h2=>(hs i h2).elim hn (fun h3=>by omega))).trans (h.2 i hi hn)⟩
theorem cW.of_grown{row:Option Nat}(hg:W.grownBy W2 row)(h:cW w W S)(hr:∀ k,row=some k→S k∨w.heap.size≤k): cW w W2 S:=
 h.then_ (S2:=fun k=>row=some k) ⟨hg.size,fun i hi hn=>hg.block i hi (fun he=>hn he.symm)⟩ hr
theorem cW.below(h:cW w W S)(hb:Below W.heap.size W W2): cW w W2 S:=h.then_ (cW.of_below hb (fun _=>False)) (fun _ hk=>hk.elim)
theorem cW.alloc(h:cW w W S)(o:Obj): cW w (W.alloc o) S:=h.below (bF (Below.refl _ _) o)
theorem cW.drew(h:cW w W S): cW w W.drew S:=h
theorem cW.drewN(h:cW w W S)(m:Nat): cW w (W.drewN m) S:=h
theorem cW.setCell(h:cW w W S){p:Addr}(hp:S p.block∨w.heap.size≤p.block)(u:Value): cW w (W.setCell p u) S:=
 h.then_ (S2:=fun k=>k=p.block) ⟨by simp[World.setCell],fun i _ hn=>Below.heap_setCell W p u i hn⟩ (fun k hk=>by rw[hk];exact hp)
theorem cW.keep{g:Nat}(h:aJ w W g none)(k:cW W W2 S2)(hs:∀ k,S2 k→w.heap.size≤k): aJ w W2 g none:=
 ⟨Nat.le_trans h.1 k.1,fun i hi hg hr=>(k.2 i (Nat.lt_of_lt_of_le hi h.1) (fun h2=>by have:=hs i h2;omega)).trans (h.2 i hi hg hr)⟩
theorem kn{g:Nat}{o:Obj}(hb:W.heap[g]? = some o)(hk:cW W W2 S)(hne:¬ S g): W2.heap[g]? = some o:=(hk.2 g (cB hb) hne).trans hb
end
namespace Kd
section
variable {α:Type} {d:Kd α} {e base n c:Nat} {ok oki S S2:Nat→Prop} {w w0 W W1 W2:World} {v:Value} {A:Option Addr} {xs:List α} {i:Int} {cs:List Value}
theorem R_kept(h:d.R e W base ok v xs)(hk:cW W W2 S)(hne:∀ k,ok k→¬ S k): d.R e W2 base ok v xs:=kd h (fun k ho hlt=>hk.2 k hlt (hne k ho))
end
end Kd
end Go.Proofs.YtiegkjimpclmaaaGreatDoorW.PrintWords
namespace Go.Proofs.YtiegkjimpclmaaaGreatDoorW.PrintWords
open Go.RowKit
def im(P:World→Prop)(W:World)(ok:Nat→Prop): Prop:=∀ W':World,(∀ k,ok k→k<W.heap.size→W'.heap[k]? = W.heap[k]?)→P W'
theorem qJ{W W1:World}{k:Nat}(h:W1.heap[k]? = W.heap[k]?)(hlt:k<W.heap.size): k<W1.heap.size:=by
 rw[Array.getElem?_eq_getElem hlt]at h;exact(Array.getElem?_eq_some_iff.1 h).1
namespace im
variable {P Q:World→Prop} {W W1:World} {ok ok':Nat→Prop}
theorem now(h:im P W ok): P W:=h W (fun _ _ _=>rfl)
theorem mono(h:im P W ok)(hok:∀ k,ok k→ok' k): im P W ok':=fun W' hW=>h W' (fun k hk hlt=>hW k (hok k hk) hlt)
theorem bound(h:im P W ok): im P W (fun k=>ok k∧k<W.heap.size):=fun W' hW=>h W' (fun k hk hlt=>hW k ⟨hk,hlt⟩ hlt)
theorem step(h:im P W ok)(hm:∀ k,ok k→k<W.heap.size→W1.heap[k]? = W.heap[k]?): im P W1 ok:=fun W' hW=>h W' (fun k hk hlt=>(hW k hk (qJ (hm k hk hlt) hlt)).trans (hm k hk hlt))
theorem imp(h:im P W ok)(hi:∀ W',P W'→Q W'): im Q W ok:=fun W' hW=>hi W' (h W' hW)
theorem old(h:im P W ok)(hb:Below W.heap.size W W1): im P W1 (fun k=>ok k∧k<W.heap.size):=(h.bound).step (fun k _ hlt=>hb.block k hlt)
end im
namespace Kd
def F{α:Type}(d:Kd α)(W:World)(ok:Nat→Prop)(A:Option Addr)(n:Nat)(xs:List α): Prop:=im (fun W=>d.C W A n xs) W ok
def FK{α:Type}(d:Kd α)(W:World)(ok:Nat→Prop)(x:α)(c:List Value): Prop:=im (fun W=>d.K W x c) W ok
section
variable {α β:Type} {d:Kd α} {e base n n' cc g N:Nat} {ok ok' okp S:Nat→Prop} {w w0 w1 W W1:World} {A A':Option Addr} {u v v1:Value} {xs:List α} {xs':List β} {d':Kd β} {x:α} {c:List Value}
theorem sr(d:Kd α)(W:World)(ok:Nat→Prop): F d W ok none ([]:List α).length []:=fun W' _=>C_nil d W'
theorem qF(h:d.M W base ok x c): FK d W ok x c:=fun _ hW=>d.K_of_M (mK h hW)
end
end Kd
end Go.Proofs.YtiegkjimpclmaaaGreatDoorW.PrintWords
namespace Go.Proofs.YtiegkjimpclmaaaGreatDoorW.PrintWords
open Go.RowKit
namespace Kd
def io(sz:Nat)(n:Nat)(inner:List Value): List (List Value):=(List.range n).map fun j=>(inner.drop (j*sz)).take sz
theorem eQ(sz n:Nat)(inner:List Value): (io sz n inner).length=n:=by simp[io]
theorem ow{sz n:Nat}{inner:List Value}{j:Nat}(hj:j<n): (io sz n inner)[j]? = some ((inner.drop (j*sz)).take sz):=by simp[io,hj]
theorem ku{sz n:Nat}{inner:List Value}{j:Nat}{c:List Value}(h:(io sz n inner)[j]? = some c): c=(inner.drop (j*sz)).take sz:=by
 have hj:j<n:=by have:=(List.getElem?_eq_some_iff.1 h).1;rwa [eQ]at this
 rw[ow hj]at h
 injection h with h
 exact h.symm
theorem qq{α:Type}{Rr:α→List Value→Prop}{sz:Nat}{xs:List α}{inner:List Value}(h:br Rr sz xs inner)(hR:∀ x c,Rr x c→c.length=sz∧∀ u∈c,u.oneCell'=true): br (fun x cs=>cs=x∧cs.length=sz∧∀ u∈cs,u.oneCell'=true) sz (io sz xs.length inner) inner:=by
 refine⟨by rw[eQ];exact h.1,fun j p hj=>?_⟩
 have hjl:j<xs.length:=by have:=(List.getElem?_eq_some_iff.1 hj).1;rwa [eQ]at this
 have hp:=ku hj;exact⟨hp.symm,hR _ _ (h.2 j _ (List.getElem?_eq_getElem hjl))⟩
section
variable {α:Type} {d:Kd α} {e base n cc g:Nat} {ok ok' okp S:Nat→Prop} {w w1 W W1:World} {A:Option Addr} {u v v1:Value} {xs:List α} {x:α} {c:List Value}
def N{α:Type}(d:Kd α)(e:Nat)(w:World)(base:Nat)(ok:Nat→Prop)(v:Value)(xs:List α): Prop:=
 (∀ k,v.ownBlock=some k→ok k)∧∃ rows:List (List Value),rows.length=xs.length∧(raw d.sz).R e w base (fun k=>some k=v.ownBlock) v rows∧∀ (j:Nat) (x:α) (c:List Value),xs[j]? = some x→rows[j]? = some c→FK d w (fun k=>ok k∧some k≠v.ownBlock) x c
theorem R_N(h:d.R e w base ok v xs): N d e w base ok v xs:=by
 obtain⟨h0,inner,ho,hr⟩:=h;refine⟨h0,io d.sz xs.length inner,eQ _ _ _,⟨fun k hk=>hk.symm,inner,by rw[eQ];exact ho,qq hr (fun x c hp=>⟨d.K_len (d.K_of_M hp),d.K_one (d.K_of_M hp)⟩)⟩,fun j x c hx hc=>?_⟩;rw[ku hc];exact qF (hr.2 j x hx)
theorem N_nil(d:Kd α)(e:Nat)(w:World)(base:Nat)(ok:Nat→Prop): N d e w base ok (.slice none 0 0) []:=R_N (R_nil _ _ _ _ _)
end
end Kd
end Go.Proofs.YtiegkjimpclmaaaGreatDoorW.PrintWords
namespace Go.Proofs.YtiegkjimpclmaaaGreatDoorW.PrintWords
open Go.RowKit
namespace Kd
section
variable {α:Type} {d:Kd α} {W:World} {g n:Nat} {S ok:Nat→Prop} {A:Option Addr} {ad:Addr} {xs:List α}
end
end Kd
end Go.Proofs.YtiegkjimpclmaaaGreatDoorW.PrintWords
namespace Go.Proofs.YtiegkjimpclmaaaGreatDoorW.PrintWords
open Go.RowKit
namespace Kd
section
variable {α:Type} {d:Kd α} {e base n cap g:Nat} {ok ok' okp:Nat→Prop} {w w1 W:World} {v v1:Value} {xs ys:List α}
end
section
variable {P:Program} {ops:Array Oper} {rest:List Oper} {o:Oper} {a:Act} {Q:Exit→Act→World→Prop} {Kc:Act→World→Prop} {α:Type}
end
end Kd
end Go.Proofs.YtiegkjimpclmaaaGreatDoorW.PrintWords
namespace Go.Proofs.YtiegkjimpclmaaaGreatDoorW.PrintMore
open Go.RowKit Go.Proofs.YtiegkjimpclmaaaGreatDoorW.PrintWords
namespace Kd
open Go.Proofs.YtiegkjimpclmaaaGreatDoorW.PrintWords.Kd
end Kd
namespace Kd
open Go.Proofs.YtiegkjimpclmaaaGreatDoorW.PrintWords.Kd
section
variable {α:Type} {d:Kd α} {e base g N:Nat} {ok:Nat→Prop} {W w1:World} {u v:Value} {xs:List α}
theorem R_oldK(hu:d.R e W base (fun k=>ok k∧k≠g) u xs)(hk:aJ W w1 g none): d.R e w1 base (fun k=>ok k∧k<W.heap.size) u xs:=
 R_mono (R_keep (R_bound hu) hk (fun _ h=>h.1.2)) (fun _ h=>⟨h.1.1,h.2.2.1⟩)
theorem R_told(h:d.R e w1 base (fun k=>ok k∧k<N) u xs)(hbase:∀ k,v.ownBlock=some k→N≤k): d.R e w1 base (fun k=>(ok k∧some k≠v.ownBlock)∧k<N) u xs:=
 R_mono h (fun k hk=>⟨⟨hk.1,fun e=>Nat.lt_irrefl _ (Nat.lt_of_lt_of_le hk.2 (hbase k e.symm))⟩,hk.2⟩)
end
end Kd
theorem cG(k k':IntKind)(x y:Int): Builtin.max2 (.int k x) (.int k' y)=pure (.int k (if x<y then y else x)):=by simp only[Builtin.max2,gt_iff_lt]
theorem cD(k k':IntKind)(x y:Int): Builtin.min2 (.int k x) (.int k' y)=pure (.int k (if y<x then y else x)):=by simp only[Builtin.min2]
theorem c_(ats:Array TypeId)(ty:TypeId)(a b:Value): Builtin.max_ ats ty #[a,b]=(Builtin.max2 a b >>= fun s=>pure s):=by simp only[Builtin.max_,List.foldlM_cons,List.foldlM_nil]
theorem cZ(ats:Array TypeId)(ty:TypeId)(a b:Value): Builtin.min_ ats ty #[a,b]=(Builtin.min2 a b >>= fun s=>pure s):=by simp only[Builtin.min_,List.foldlM_cons,List.foldlM_nil]
theorem ci(ats:Array TypeId)(ty:TypeId)(a b c:Value): Builtin.max_ ats ty #[a,b,c]=(Builtin.max2 a b >>= fun s=>Builtin.max2 s c >>= fun s=>pure s):=by simp only[Builtin.max_,List.foldlM_cons,List.foldlM_nil]
theorem ch(ats:Array TypeId)(ty:TypeId)(a b c:Value): Builtin.min_ ats ty #[a,b,c]=(Builtin.min2 a b >>= fun s=>Builtin.min2 s c >>= fun s=>pure s):=by simp only[Builtin.min_,List.foldlM_cons,List.foldlM_nil]
theorem cE(ats:Array TypeId)(ty:TypeId)(a b c d:Value): Builtin.max_ ats ty #[a,b,c,d]=(Builtin.max2 a b >>= fun s=>Builtin.max2 s c >>= fun s=>Builtin.max2 s d >>= fun s=>pure s):=by simp only[Builtin.max_,List.foldlM_cons,List.foldlM_nil]
theorem cH(ats:Array TypeId)(ty:TypeId)(a b c d:Value): Builtin.min_ ats ty #[a,b,c,d]=(Builtin.min2 a b >>= fun s=>Builtin.min2 s c >>= fun s=>Builtin.min2 s d >>= fun s=>pure s):=by simp only[Builtin.min_,List.foldlM_cons,List.foldlM_nil]
end Go.Proofs.YtiegkjimpclmaaaGreatDoorW.PrintMore
namespace Go.Proofs.YtiegkjimpclmaaaGreatDoorW.PrintWords
open Go.RowKit
section
variable {P:Program} {ops:Array Oper} {rest:List Oper} {o:Oper} {a:Act} {Q:Exit→Act→World→Prop} {W:World}
theorem gO{f:FuncId}{as_:Array Operand}{ts:Array TypeId}(_ho:o.op = .call { callee:=.value (.func f),args:=as_,argTypes:=ts })(h:wpList P ops Q (o::rest) a W): wpList P ops Q (o::rest) a W:=h
theorem bz{b:Builtin}{xs:Array Operand}{ts:Array TypeId}(_ho:o.op = .call { callee:=.builtin b,args:=xs,argTypes:=ts })(h:wpList P ops Q (o::rest) a W): wpList P ops Q (o::rest) a W:=h
end
def shr(k:IntKind)(x y:Int): Int:=x / 2^min y.toNat k.bits
theorem pf{k:IntKind}{x y j:Int}(h:shr k x y=j)(hy:y≤k.bits): x / 2^y.toNat=j:=by rw[← h];unfold shr;rw[Nat.min_eq_left (by omega)]
theorem fC{W:World}{o:Obj}{a:Addr}{v:Value}(h:(W.alloc o).cell? a=some v)(hlt:a.block<W.heap.size): W.cell? a=some v:=(World.cell?_alloc_lt _ _ _ hlt).symm.trans h
theorem cell_grown{W w1:World}{row:Option Nat}(hg:W.grownBy w1 row){a:Addr}{v:Value}(h:W.cell? a=some v)(hne:some a.block≠row): w1.cell? a=some v:=by
 have:=hg.block a.block (World.block_lt_of_cell? W a h) hne
 simpa [World.cell?,this]using h
namespace Kd
section
variable {α:Type} {d:Kd α} {e base:Nat} {ok:Nat→Prop} {W w1:World} {v:Value} {xs:List α}
end
section
variable {α:Type} {d:Kd α} {e base g n cap:Nat} {ok oki okp:Nat→Prop} {W:World} {xs:List α} {i:Int} {c:List Value}
theorem H_at(h:H d e W base ok (.slice (some ⟨g,0,none⟩) n cap) xs i oki c)(h0:0≤i)(h1:i<n): (∀ j u,c[j]? = some u→W.cell? ⟨g,i.toNat*d.sz+j,none⟩=some u)∧∀ j,W.frozen? ⟨g,i.toNat*d.sz+j,none⟩=false:=by
 obtain⟨rows,_,hraw,_,_,hcc,_⟩:=H_raw h h0 h1;obtain⟨_,_,_,_,hfr⟩:=mW hraw [] i h0 h1;exact⟨hcc,hfr⟩
theorem S_seg0(hH:H d e W base ok (.slice (some ⟨g,0,none⟩) n cap) xs i oki c)(h0:0≤i)(h1:i<n){seg:List Value}{j:Nat}(hj:j+seg.length≤d.sz)
 {x':α} (hM:d.M W base okp x' (c.take j++seg++c.drop (j+seg.length))) (hokp:∀ k,okp k→oki k) :
 S d e (W.setCells g (i.toNat*d.sz+j) seg) base ok (.slice (some ⟨g,0,none⟩) n cap) (xs.set i.toNat x')∧W.grownBy (W.setCells g (i.toNat*d.sz+j) seg) (some g):=
 sw (okg:=fun _=>False) (rG hH (fun _ hk=>⟨hk,fun h=>h⟩)) h0 h1 hj hM (fun k hk=> .inl (hokp k hk)) (fun _ hk=>hk.elim)
end
section
variable {α:Type} {d:Kd α} {e base b b' g N:Nat} {ok ok1:Nat→Prop} {W W2 w1:World} {u v:Value} {xs ys:List α} {S:Nat→Prop}
theorem R_reok(hE:d.E=[])(h:d.R e W base ok1 v xs)(hok:∀ k,v.ownBlock=some k→ok k): d.R e W base ok v xs:=R_mono (R_tight hE h) (fun k hk=>hok k hk.symm)
theorem R_keptB(h:d.R e W base ok v xs)(hk:cW W W2 S)(hne:∀ k,ok k→¬ S k): d.R e W2 base (fun k=>ok k∧(¬ S k∧k<W.heap.size)) v xs:=
 R_kept (R_mono (R_bound h) (fun k hk=>⟨hk.1,hne k hk.1,hk.2.2.1⟩)) hk (fun _ hk=>hk.2.1)
end
end Kd
end Go.Proofs.YtiegkjimpclmaaaGreatDoorW.PrintWords
namespace Go.Proofs.YtiegkjimpclmaaaGreatDoorW.PrintWords
open Go.RowKit
namespace Kd
def V{α:Type}(d:Kd α)(_e:Nat)(W:World)(_base:Nat)(ok:Nat→Prop)(v:Value)(xs:List α): Prop:=∃ A c,v = .slice A xs.length c∧xs.length≤c∧F d W ok A xs.length xs
section
variable {α β:Type} {d:Kd α} {e base base' n m c g N' lo hi:Nat} {ok ok' S:Nat→Prop} {w W w1:World} {A:Option Addr} {ad:Addr} {u v v1:Value} {xs:List α}
theorem V_nil(d:Kd α)(e:Nat)(W:World)(base:Nat)(ok:Nat→Prop): V d e W base ok (.slice none 0 0) []:=⟨none,0,rfl,Nat.le_refl _,sr d W ok⟩
end
end Kd
end Go.Proofs.YtiegkjimpclmaaaGreatDoorW.PrintWords
namespace Go.Proofs.YtiegkjimpclmaaaGreatDoorW.PrintWords
open Go.RowKit
section
variable {w w' u:World} {m B g:Nat} {o:Obj} {row:Option Nat} {S:Nat→Prop} {a:Addr} {v:Value}
end
namespace Kd
section
variable {α:Type} {d:Kd α} {e base n m:Nat} {ok:Nat→Prop} {w w':World} {v:Value} {A:Option Addr} {xs:List α}
end
end Kd
end Go.Proofs.YtiegkjimpclmaaaGreatDoorW.PrintWords
namespace Go.Proofs.YtiegkjimpclmaaaGreatDoorW.PrintWords
open Go.RowKit
end Go.Proofs.YtiegkjimpclmaaaGreatDoorW.PrintWords
namespace Go.Proofs.YtiegkjimpclmaaaGreatDoorW.PrintLast
section
variable {ops:Array Oper} {a:Act} {o og:Oper} {g:Nat} {t:Tmp} {u:Bool}
end
end Go.Proofs.YtiegkjimpclmaaaGreatDoorW.PrintLast
namespace Go.Proofs.YtiegkjimpclmaaaGreatDoor.P
open Go.RowKit Go.Proofs.YtiegkjimpclmaaaGreatDoorW.PrintWords Go.Proofs.YtiegkjimpclmaaaGreatDoorW.PrintLast Go.Proofs.YtiegkjimpclmaaaGreatDoorW.PrintMore
attribute [local go_sem] cG cD c_ cZ ci ch cE cH
set_option linter.unusedVariables false
set_option linter.unusedSimpArgs false
def su: Option Int→Value
 | none=> .nilIface
 | some c=> .iface 178 (.int .i64 c)
theorem bY: su none = .nilIface:=rfl
theorem bZ(c:Int): su (some c) = .iface 178 (.int .i64 c):=rfl
theorem nT: (Tryz.prog.info? 3).map (fun i=>(i.zero,i.size,i.bytes))=some (some (.int .i64 0),1,8):=by kernel_rfl
theorem rf: (Tryz.prog.info? 5).map (fun i=>(i.zero,i.size,i.bytes))=some (some (.int .u8 0),1,1):=by kernel_rfl
theorem jd: (Tryz.prog.info? 9).map (fun i=>(i.zero,i.size,i.bytes))=some (some (.string ⟨#[]⟩),1,16):=by kernel_rfl
theorem dz: (Tryz.prog.info? 45).map (fun i=>(i.zero,i.size,i.bytes))=some (some (.agg #[(.string ⟨#[]⟩),(.int .i64 0),(.int .i64 0),(.string ⟨#[]⟩)]),4,48):=by kernel_rfl
theorem rC: (Tryz.prog.info? 83).map (fun i=>(i.zero,i.size,i.bytes))=some (some (.agg #[(.string ⟨#[]⟩),(.int .i64 0),(.int .i64 0),(.slice none 0 0)]),4,56):=by kernel_rfl
structure S82 where
 f0:ByteArray
 f1:Int
 f2:Int
 f3:(List ByteArray)
structure S45 where
 f0:ByteArray
 f1:Int
 f2:Int
 f3:ByteArray
def z45: S45:=⟨(⟨#[]⟩:ByteArray),(0:Int),(0:Int),(⟨#[]⟩:ByteArray)⟩
def k45: Kd S45:=Kd.iso (Kd.pair Kd.string (Kd.pair (Kd.int .i64) (Kd.pair (Kd.int .i64) Kd.string))) (fun x:S45=>(x.f0,x.f1,x.f2,x.f3))
theorem ph{w:World}{x:S45}{cs:List Value}(h:k45.K w x cs): cs=[.string x.f0,.int .i64 x.f1,.int .i64 x.f2,.string x.f3]:=by
 obtain⟨_,_,rfl,rfl,⟨_,_,rfl,rfl,⟨_,_,rfl,rfl,rfl⟩⟩⟩:=h;exact rfl
theorem jC(w:World)(base:Nat)(ok:Nat→Prop)(x:S45): k45.M w base ok x [.string x.f0,.int .i64 x.f1,.int .i64 x.f2,.string x.f3]:=⟨[.string x.f0],[.int .i64 x.f1,.int .i64 x.f2,.string x.f3],rfl,rfl,⟨[.int .i64 x.f1],[.int .i64 x.f2,.string x.f3],rfl,rfl,⟨[.int .i64 x.f2],[.string x.f3],rfl,rfl,rfl⟩⟩⟩
def ae(xs:List S45)(i:Int): S45:=xs.getD i.toNat z45
theorem dN{w:World}{A:Option Addr}{n:Nat}{xs:List S45}(h:Kd.C k45 w A n xs)(i:Int)(h0:0≤i)(h1:i<n): ∃ ad ,A=some ad∧w.cell? (ad.add (i.toNat*4))=some (.string (ae xs i).f0)∧w.cell? ⟨(ad.add (i.toNat*4)).block,(ad.add (i.toNat*4)).off+1,none⟩=some (.int .i64 (ae xs i).f1)∧w.cell? ⟨(ad.add (i.toNat*4)).block,(ad.add (i.toNat*4)).off+2,none⟩=some (.int .i64 (ae xs i).f2)∧w.cell? ⟨(ad.add (i.toNat*4)).block,(ad.add (i.toNat*4)).off+3,none⟩=some (.string (ae xs i).f3):=by
 obtain⟨ad,c,e,_,hK,hc0⟩:=Kd.C_get h z45 i h0 h1;have hc:∀ j u,c[j]? = some u→w.cell? (ad.add (i.toNat*4+j))=some u:=hc0;obtain rfl:=ph hK;exact⟨ad,e,hc 0 _ rfl,by rw[← eh _ _ 1 (by omega)];exact hc 1 _ rfl,by rw[← eh _ _ 2 (by omega)];exact hc 2 _ rfl,by rw[← eh _ _ 3 (by omega)];exact hc 3 _ rfl⟩
structure S83 where
 f0:ByteArray
 f1:Int
 f2:Int
 f3:(List ByteArray)
def z83: S83:=⟨(⟨#[]⟩:ByteArray),(0:Int),(0:Int),([]:List ByteArray)⟩
def k83: Kd S83:=Kd.iso (Kd.pair Kd.string (Kd.pair (Kd.int .i64) (Kd.pair (Kd.int .i64) (Kd.slice 9 Kd.string)))) (fun x:S83=>(x.f0,x.f1,x.f2,x.f3))
theorem pi{w:World}{x:S83}{cs:List Value}(h:k83.K w x cs): ∃ A3 c3,cs=[.string x.f0,.int .i64 x.f1,.int .i64 x.f2,.slice A3 x.f3.length c3]∧x.f3.length≤c3∧Kd.string.C w A3 x.f3.length x.f3:=by
 obtain⟨_,_,rfl,rfl,⟨_,_,rfl,rfl,⟨_,_,rfl,rfl,⟨A3,c3,rfl,l3,g3⟩⟩⟩⟩:=h;exact⟨A3,c3,rfl,l3,g3⟩
theorem fo{w:World}{base:Nat}{ok:Nat→Prop}{x:S83}{cs:List Value}(h:k83.M w base ok x cs): ∃ v3,cs=[.string x.f0,.int .i64 x.f1,.int .i64 x.f2,v3]∧Kd.string.R 9 w base ok v3 x.f3:=by
 obtain⟨_,_,rfl,rfl,⟨_,_,rfl,rfl,⟨_,_,rfl,rfl,⟨v3,rfl,g3⟩⟩⟩⟩:=h;exact⟨v3,rfl,g3⟩
theorem nK(w:World)(base:Nat)(ok:Nat→Prop)(x:S83){v3:Value}(g3:Kd.string.R 9 w base ok v3 x.f3): k83.M w base ok x [.string x.f0,.int .i64 x.f1,.int .i64 x.f2,v3]:=⟨[.string x.f0],[.int .i64 x.f1,.int .i64 x.f2,v3],rfl,rfl,⟨[.int .i64 x.f1],[.int .i64 x.f2,v3],rfl,rfl,⟨[.int .i64 x.f2],[v3],rfl,rfl,⟨v3,rfl,g3⟩⟩⟩⟩
def ao(xs:List S83)(i:Int): S83:=xs.getD i.toNat z83
theorem gT{w:World}{A:Option Addr}{n:Nat}{xs:List S83}(h:Kd.C k83 w A n xs)(i:Int)(h0:0≤i)(h1:i<n): ∃ ad A3 c3,A=some ad∧w.cell? (ad.add (i.toNat*4))=some (.string (ao xs i).f0)∧w.cell? ⟨(ad.add (i.toNat*4)).block,(ad.add (i.toNat*4)).off+1,none⟩=some (.int .i64 (ao xs i).f1)∧w.cell? ⟨(ad.add (i.toNat*4)).block,(ad.add (i.toNat*4)).off+2,none⟩=some (.int .i64 (ao xs i).f2)∧w.cell? ⟨(ad.add (i.toNat*4)).block,(ad.add (i.toNat*4)).off+3,none⟩=some (.slice A3 (ao xs i).f3.length c3)∧(ao xs i).f3.length≤c3∧Kd.string.C w A3 (ao xs i).f3.length (ao xs i).f3:=by
 obtain⟨ad,c,e,_,hK,hc0⟩:=Kd.C_get h z83 i h0 h1;have hc:∀ j u,c[j]? = some u→w.cell? (ad.add (i.toNat*4+j))=some u:=hc0;obtain⟨A3,c3,rfl,l3,g3⟩:=pi hK;exact⟨ad,A3,c3,e,hc 0 _ rfl,by rw[← eh _ _ 1 (by omega)];exact hc 1 _ rfl,by rw[← eh _ _ 2 (by omega)];exact hc 2 _ rfl,by rw[← eh _ _ 3 (by omega)];exact hc 3 _ rfl,l3,g3⟩
structure S91 where
 f0:ByteArray
 f1:Int
 f2:Int
 f3:ByteArray
theorem ay{b:Nat}{w w':World}(h:Below b w w':=by repeat(first|(with_reducible first|exact HB.out|apply bF|apply bv|apply bp)|exact HB.out)): Below b w w':=h
theorem aD{b:Nat}{w w':World}(h:Below b w w':=by repeat(first|(with_reducible first|exact HB.out|apply bF|apply bv|apply bp|refine cz ?_ (ab.out (by assumption)))|exact HB.out)): Below b w w':=h
theorem bq{w0 w w1:World}{g:Nat}{o:Obj}(BK:ab (w0.heap[g]? = some o))(hb:Below w.heap.size w w1)(h:w.heap[g]? = some o:=by(with_reducible repeat(first|refine aI ?_ _|refine az ?_|refine aE ?_ _));exact ab.out (by assumption)): w1.heap[g]? = some o:=b_ h hb
theorem cY{w:World}{g:Nat}{t:TypeId}{v0 v1 v2 v3:Value}(h:w.heap[g]? = some (.cells #[v0,v1,v2,v3] t (0,0))): w.cell? ⟨g,0,none⟩=some v0∧w.cell? ⟨g,1,none⟩=some v1∧w.cell? ⟨g,2,none⟩=some v2∧w.cell? ⟨g,3,none⟩=some v3∧w.frozen? ⟨g,0,none⟩=false∧w.frozen? ⟨g,1,none⟩=false∧w.frozen? ⟨g,2,none⟩=false∧w.frozen? ⟨g,3,none⟩=false:=⟨(af h 0).trans rfl,(af h 1).trans rfl,(af h 2).trans rfl,(af h 3).trans rfl,cr h 0,cr h 1,cr h 2,cr h 3⟩
theorem bT{w:World}{g:Nat}{t:TypeId}{v0 v1 v2 v3 v4 v5 v6 v7:Value}(h:w.heap[g]? = some (.cells #[v0,v1,v2,v3,v4,v5,v6,v7] t (0,0))): w.cell? ⟨g,0,none⟩=some v0∧w.cell? ⟨g,1,none⟩=some v1∧w.cell? ⟨g,2,none⟩=some v2∧w.cell? ⟨g,3,none⟩=some v3∧w.cell? ⟨g,4,none⟩=some v4∧w.cell? ⟨g,5,none⟩=some v5∧w.cell? ⟨g,6,none⟩=some v6∧w.cell? ⟨g,7,none⟩=some v7∧w.frozen? ⟨g,0,none⟩=false∧w.frozen? ⟨g,1,none⟩=false∧w.frozen? ⟨g,2,none⟩=false∧w.frozen? ⟨g,3,none⟩=false∧w.frozen? ⟨g,4,none⟩=false∧w.frozen? ⟨g,5,none⟩=false∧w.frozen? ⟨g,6,none⟩=false∧w.frozen? ⟨g,7,none⟩=false:=⟨(af h 0).trans rfl,(af h 1).trans rfl,(af h 2).trans rfl,(af h 3).trans rfl,(af h 4).trans rfl,(af h 5).trans rfl,(af h 6).trans rfl,(af h 7).trans rfl,cr h 0,cr h 1,cr h 2,cr h 3,cr h 4,cr h 5,cr h 6,cr h 7⟩
end Go.Proofs.YtiegkjimpclmaaaGreatDoor.P
namespace Go.Proofs.YtiegkjimpclmaaaGreatDoor.P
open Go
set_option linter.unusedSimpArgs false
theorem kQ: ∀ (x y:List UInt8),(!(Op.bytesLess x y||x==y))=Op.bytesLess y x
 | [],[]=>by simp[Op.bytesLess]
 | _::_,[]=>by simp[Op.bytesLess]
 | [],_::_=>by simp[Op.bytesLess]
 | a::x,b::y=>by
  have ih:=kQ x y;unfold Op.bytesLess
  by_cases h1:a<b
  · have h2 : ¬ b < a := by rw [UInt8.lt_iff_toNat_lt] at h1 ⊢; omega
    have h3:¬ a=b:=by rintro rfl;rw[UInt8.lt_iff_toNat_lt]at h1;omega
    have h4:¬ b=a:=fun e=>h3 e.symm
    simp[h1,h2,h3,h4]
  · by_cases h2 : b < a
    · have h3 : ¬ a = b := by rintro rfl; rw [UInt8.lt_iff_toNat_lt] at h2; omega
      simp[h1,h2,h3]
    · have h3 : a = b := by rw [UInt8.lt_iff_toNat_lt] at h1 h2; apply UInt8.toNat_inj.1; omega
      subst h3;simp at ih ⊢
      simpa [h1]using ih
theorem kf(t:TypeId)(a b:ByteArray): binOp .gtr t (.string a) (.string b)=pure (.bool (Op.bytesLess b.toList a.toList)):=by
 rw[← kQ];simp[binOp,Op.stringOp]
end Go.Proofs.YtiegkjimpclmaaaGreatDoor.P
namespace Go.Proofs.YtiegkjimpclmaaaGreatDoor.P
open Go.RowKit Go.Proofs.YtiegkjimpclmaaaGreatDoorW.PrintWords Go.Proofs.YtiegkjimpclmaaaGreatDoorW.PrintLast
set_option linter.unusedVariables false
structure Vars (w:World):Prop where
 syn:∃ tp p,w.var? Tryz.prog "strconv.ErrSyntax" = some #[.iface tp p]
 rng:∃ tp p,w.var? Tryz.prog "strconv.ErrRange" = some #[.iface tp p]
 tab:Lib.TabIs Tryz.prog w "internal/strconv.uint64pow10" .u64 Lib.pow10Tab
theorem iT{w w':World}{name:String}{cs:Array Value}(h:w.var? Tryz.prog name=some cs)(hb:Below w.heap.size w w'): w'.var? Tryz.prog name=some cs:=by
 unfold World.var? at h ⊢;obtain⟨g,hg,h⟩:=Option.bind_eq_some_iff.mp h;rw[hg,Option.bind_some]
 cases hh:w.heap[g]? with
 | none=>rw[hh]at h;cases h
 | some o=>
  rw[hb.block g (Array.getElem?_eq_some_iff.1 hh).1,hh];rw[hh]at h;exact h
theorem Vars.below{w w':World}(h:Vars w)(hb:Below w.heap.size w w'): Vars w':=
 ⟨h.syn.imp fun _ h=>h.imp fun _ h=>iT h hb,h.rng.imp fun _ h=>h.imp fun _ h=>iT h hb,iT h.tab hb⟩
def dS{α:Type}(p:α→Bool): List α→Int→Int
 | [],_=> -1
 | x::xs,i=>if p x then i else dS p xs (i+1)
theorem gK{α:Type}(p:α→Bool)(xs:List α)(i:Int)(k:Nat)(x:α)(hk:xs[k]? = some x)(hx:p x=true)(hn:∀ j y,j<k→xs[j]? = some y→p y=false): dS p xs i=i+k:=by
 induction xs generalizing i k with
 | nil=>simp at hk
 | cons a xs ih=>
  cases k with
  | zero=>
   obtain rfl:a=x:=by simpa using hk
   simp[dS,hx]
  | succ k=>
   have h0:p a=false:=hn 0 a (by omega) (by simp);simp only[dS,h0];rw[if_neg (by decide),ih (i+1) k (by simpa using hk) (fun j y hj hy=>hn (j+1) y (by omega) (by simpa using hy))];omega
theorem gf{α:Type}(p:α→Bool)(xs:List α)(i:Int)(hn:∀ y∈xs,p y=false): dS p xs i = -1:=by
 induction xs generalizing i with
 | nil=>rfl
 | cons a xs ih=>
  simp only[dS,hn a List.mem_cons_self];rw[if_neg (by decide)]
  exact ih _ fun y hy=>hn y (List.mem_cons_of_mem _ hy)
theorem jE{α:Type}(p:α→Bool)(xs:List α)(i:Int)(h0:0≤i): decide (0≤dS p xs i)=xs.any p:=by
 induction xs generalizing i with
 | nil=>rfl
 | cons a xs ih=>
  rw[List.any_cons]
  by_cases h:p a=true
  · have e : dS p (a :: xs) i = i := by simp [dS, h]
    rw[e,h,Bool.true_or];exact decide_eq_true h0
  · have e : dS p (a :: xs) i = dS p xs (i + 1) := by simp [dS, h]
    rw[e,Bool.eq_false_iff.mpr h,Bool.false_or];exact ih (i+1) (by omega)
def jK{α:Type}(g:Nat)(cb:Array Value)(enc:α→Value)(p:α→Bool)(xs:List α)(w:World): Prop:=
 ∀ x,x∈xs→∀ W,Below w.heap.size w W→Calls Tryz.prog g (#[enc x]++cb) W fun e W'=>e = .returned (.bool (p x))∧Below W.heap.size W W'
end Go.Proofs.YtiegkjimpclmaaaGreatDoor.P
namespace Go.Proofs.YtiegkjimpclmaaaGreatDoor.P
open Go.RowKit Go.Proofs.YtiegkjimpclmaaaGreatDoorW.PrintWords Go.Proofs.YtiegkjimpclmaaaGreatDoorW.PrintLast Go.Proofs.YtiegkjimpclmaaaGreatDoorW.PrintMore
attribute [local go_sem] cG cD c_ cZ ci ch cE cH
set_option linter.unusedVariables false
set_option linter.unusedSimpArgs false
theorem rj(d:Nat)(w:World)(x0 y0:ByteArray)(x1 y1:Int)(x2 y2:Int)(x3 y3:ByteArray):
    (Op.equalIn (d+2) 45 (.agg #[.string x0,.int .i64 x1,.int .i64 x2,.string x3]) (.agg #[.string y0,.int .i64 y1,.int .i64 y2,.string y3])).run Tryz.prog w = .ok (x0.toList==y0.toList&&(x1==y1&&(x2==y2&&(x3.toList==y3.toList)))) w:=by
  refine ru Tryz.underlying45 (by kernel_rfl) ?_
  refine jJ (by rfl) (by go_simp;rfl) (by go_simp;rfl) (by go_simp) ?_
  refine jJ (by rfl) (by go_simp;rfl) (by go_simp;rfl) (by go_simp) ?_
  refine jJ (by rfl) (by go_simp;rfl) (by go_simp;rfl) (by go_simp) ?_
  exact qb (by rfl) (by go_simp;rfl) (by go_simp;rfl) (by go_simp)
end Go.Proofs.YtiegkjimpclmaaaGreatDoor.P
namespace Go.Proofs.YtiegkjimpclmaaaGreatDoor.P
open Go.RowKit Go.Proofs.YtiegkjimpclmaaaGreatDoorW.PrintWords Go.Proofs.YtiegkjimpclmaaaGreatDoorW.PrintLast Go.Proofs.YtiegkjimpclmaaaGreatDoorW.PrintMore
set_option linter.unusedVariables false
set_option linter.unusedSimpArgs false
def dt.f(l0:List (S45)): Option (List (S45)):=if l0.length<2932031007402 then some l0 else none
set_option maxHeartbeats 2000000 in
set_option maxRecDepth 100000 in
theorem dt.c(A0:Option Addr)(c0:Nat)(l0 r:List (S45))(w:World)(hr0:Kd.C k45 w A0 l0.length l0)(hc0:l0.length≤c0)(h:dt.f l0=some r):
 Calls Tryz.prog 164 #[.slice A0 l0.length c0] w fun e w'=> ∃ v0_:Value,e = .returned (v0_)∧Kd.R k45 45 w' w.heap.size (fun _=>True) v0_ r∧Below w.heap.size w w':=by
 unfold dt.f at h
 by_cases hlt:l0.length<2932031007402
 · rw [if_pos hlt] at h
   obtain rfl:=Option.some.inj h
   have qN:=fun(w:World) (a:Option Addr) (n c:Nat)=>Lib.run_eql_slice_nil w 27 45 a n c 0 0 Tryz.underlying27
   cases A0 with
   | none=>
    have h0:l0=[]:=by
     cases l0 with
     | nil=>rfl
     | cons x l=>obtain⟨ad,e,_⟩:=hr0.2.2 (by simp);cases e
    subst h0;clear h hr0;go_enter Tryz.func164,Tryz.ntmps164;go_wp2;go_ret;exact⟨_,rfl,Kd.R_nil _ _ _ _ _,Below.refl _ _⟩
   | some a=>
    have HR0:=ab.mk hr0;have LM:=ab.mk hlt;have HB:=ab.mk (Below.refl w.heap.size w);obtain⟨y1,hy1⟩:∃ y_:List (S45),y_=[]:=⟨_,rfl⟩;have Ny1:=ab.mk hy1;clear h hr0 hlt hy1;go_enter Tryz.func164,Tryz.ntmps164;go_wp2_with (first|((with_reducible refine ax (N:=5) rfl ?_);refine Kd.R_lit k45 _ 45 ?hg (N:=5) ?hd (xs:=([]:List (S45))) (inner:=[]) (ok:=fun _=>True) (okp:=fun _=>True) ?hr ?hp (fun _ hk=>hk) trivial (Below.refl _ _) (Nat.le_refl _) (by simp) ?_;(case hd=>rfl);(case hg=>rfl);(case hr=>first|(go_simp;done)|(go_simp;rfl));(case hp=>exact(br.none _ _));intro g3 g5 g0 hb hg_ hnew_;clear hg_ hnew_;(first|rw[← Ny1.out]at g0|(simp only[Int.reduceToNat]at g0;rw[← Ny1.out]at g0));have n0_:=ab.mk (Kd.R_lower g0 (aj aD));have n3_:=ab.mk (aa aD hb);clear HB;have g1:=n0_;have HB:=n3_;clear n0_ n3_;clear hb g0)|((with_reducible refine bz (b:=.append) (xs:=#[.tmp 5,.tmp 6]) rfl ?_);at_builtin;refine Kd.R_append_rows k45 (w0:=w) w.heap.size rfl (.tmp 5) (.tmp 6) 27 45 (.agg #[(.string ⟨#[]⟩),(.int .i64 0),(.int .i64 0),(.string ⟨#[]⟩)]) 48 rfl Tryz.underlying27 dz rfl (by decide) (by omega) g3 y1 l0 _ _ _ (fun _=>True) (fun _=>False) rfl rfl ?aO ?aR (fun _ _ h=>h) (fun _ h=>h.elim) ?aF ?aB ?aS ?aL ?_;(case aR=>repeat(first|exact(Kd.C_below HR0.out HB.out)|(with_reducible refine Kd.C_alloc ?_ _)|(with_reducible refine Kd.C_drewN ?_ _)|(with_reducible refine Kd.C_drew ?_)));(case aB=>exact aD);(case aF=>exact(fun _ _=>trivial));(case aO=>exact(by(with_reducible repeat(first|apply Kd.R_alloc|apply Kd.R_drewN|apply Kd.R_drew));exact g1.out));(case aS=>exact(aj aD));(case aL=>have:=LM.out;rw[Ny1.out,List.length_nil];omega);intro g4 g6 ho hb hg hat;have n2_:=ab.mk (hb);have n3_:=ab.mk (ho);clear HB;clear g1;have HB:=n2_;have g2:=n3_;clear n2_ n3_;clear ho hb hg hat));go_ret;rw[Ny1.out]at g2;exact⟨_,rfl,g2.out,HB.out⟩
 · rw [if_neg hlt] at h
   cases h
end Go.Proofs.YtiegkjimpclmaaaGreatDoor.P
namespace Go.Proofs.YtiegkjimpclmaaaGreatDoor.P
open Go.Shelf Go.RowKit Go.Proofs.YtiegkjimpclmaaaGreatDoorW.PrintWords Go.Proofs.YtiegkjimpclmaaaGreatDoorW.PrintLast Go.Proofs.YtiegkjimpclmaaaGreatDoorW.PrintMore
end Go.Proofs.YtiegkjimpclmaaaGreatDoor.P
namespace Go.Proofs.YtiegkjimpclmaaaGreatDoor.P
open Go.Shelf Go.RowKit Go.Proofs.YtiegkjimpclmaaaGreatDoorW.PrintWords Go.Proofs.YtiegkjimpclmaaaGreatDoorW.PrintLast Go.Proofs.YtiegkjimpclmaaaGreatDoorW.PrintMore
set_option linter.unusedVariables false
theorem oF(R:ByteArray→List Value→Prop)(hR:∀ x,R x [.string x])(l:List ByteArray): br R 1 l (l.map Value.string):=by
 refine⟨by simp,fun j p hj=>?_⟩
 have h:((l.map Value.string).drop (j*1)).take 1=[.string p]:=by
  rw[Nat.mul_one]
  have h2:(l.map Value.string)[j]? = some (.string p):=by rw[List.getElem?_map,hj];rfl
  obtain⟨h3,h4⟩:=List.getElem?_eq_some_iff.1 h2
  rw[List.drop_eq_getElem_cons h3,h4];rfl
 rw[h];exact hR p
theorem rM(W:World)(base t:Nat)(l:List ByteArray)(hb:base≤W.heap.size)(hm:l.length≤9223372036854775807):
 Kd.R Kd.string t (W.alloc (.cells (l.map Value.string).toArray t)) base (fun _=>True) (.slice (some ⟨W.heap.size,0,none⟩) l.length l.length) l:=
 ⟨fun _ _=>trivial,dq.lit W base (oF (fun x cs=>cs=[.string x]) (fun _=>rfl) l) hb hm⟩
def cM.f(s sep:ByteArray): Option (List ByteArray):=
 if sep.size=1 then(if s.size<4294967281 then some ((bC (sep.data.toList.headD 0) s.data.toList).map mkB)else none)else none
theorem cM.c(a0 a1:ByteArray)(r:List ByteArray)(w:World)(h:cM.f a0 a1=some r):
 Calls Tryz.prog 87 #[.string a0,.string a1] w fun e w'=> ∃ v0_:Value,e = .returned (v0_)∧Kd.R Kd.string 9 w' w.heap.size (fun _=>True) v0_ r∧Below w.heap.size w w':=by
 unfold cM.f at h
 by_cases h1:a1.size=1
 · rw [if_pos h1] at h
   by_cases h2:a0.size<4294967281
   · rw [if_pos h2] at h
     obtain⟨c,rfl⟩:=Lib.one_byte a1 h1;have h:=Option.some.inj h;rw[show(List.headD (⟨#[c]⟩:ByteArray).data.toList 0)=c from rfl,← mJ c a0]at h;have h11:1≤(⟨#[c]⟩:ByteArray).size:=Nat.le_refl 1;have hN:=Lib.splitB_all ⟨#[c]⟩ h11 0 _ a0 rfl;have hcl:=Lib.countB_le ⟨#[c]⟩ h11 a0.size a0 (Nat.le_refl _);have ei:Lib.indexB a0 ⟨#[c]⟩=Lib.indexByte a0.data.toList c:=Lib.index_one _ _
     have cc:=Any.strings_genSplit_core (P:=Tryz.prog) { Tryz.lays221 with } (by kernel_rfl) a0 ⟨#[c]⟩ 0 (-1) (Lib.countB a0 ⟨#[c]⟩+1) w h2 h11 (Nat.zero_le _)
      (fun x cs hx=>(Any.strings_Index_one Tryz.lays143 x c _).mono fun e w' ⟨he,hw⟩=>⟨by rw[he,Lib.indexB,show(⟨#[c]⟩:ByteArray).data.toList=[c]from rfl,Lib.index_one],hw⟩)
      ((Any.strings_Count_one Tryz.lays138 a0 c w).mono fun e w' ⟨he,hw⟩=>⟨by rw[he,Lib.countB,show(⟨#[c]⟩:ByteArray).data.toList=[c]from rfl,Lib.count_one];rfl,hw⟩)
      (by decide) (by decide) (by rw[if_pos (by decide)];omega)
     rw[Nat.add_sub_cancel,hN]at cc
     have e2:Lib.cellsOf (Lib.splitB ⟨#[c]⟩ 0 (Lib.countB a0 ⟨#[c]⟩) a0) (Lib.countB a0 ⟨#[c]⟩+1)=((Lib.splitB ⟨#[c]⟩ 0 (Lib.countB a0 ⟨#[c]⟩) a0).map Value.string).toArray:=by rw[← hN];exact Lib.cellsOf_full _
     rw[e2,h]at cc;rw[h]at hN;rw[← hN]at cc;have hR:=rM w w.heap.size 9 r (Nat.le_refl _) (by omega)
     have cc2:Calls Tryz.prog 148 #[.string a0,.string ⟨#[c]⟩,.int .i64 0,.int .i64 (-1)] w fun e w'=>e = .returned (.slice (some ⟨w.heap.size,0,none⟩) r.length r.length)∧w'=w.alloc (.cells (r.map Value.string).toArray 9):=cc
     clear cc hN hcl ei e2 h;go_enter Tryz.func87,Tryz.ntmps87;go_wp2_with (go_at_call 148;refine cc2.mono ?_;rintro e w' ⟨rfl,hw⟩;rw[hw]);go_ret;exact⟨_,rfl,hR,bF (Below.refl _ _) _⟩
   ·rw[if_neg h2]at h;cases h
 ·rw[if_neg h1]at h;cases h
def aV.f(s sep:ByteArray): Option Int:=
 if sep.size=1 then some (Lib.indexByte s.data.toList (sep.data.toList.headD 0))else none
theorem aV.c(a0 a1:ByteArray)(r:Int)(w:World)(h:aV.f a0 a1=some r):
 Calls Tryz.prog 195 #[.string a0,.string a1] w fun e w'=>e = .returned (.int .i64 r)∧cC w w':=by
 unfold aV.f at h
 by_cases h1:a1.size=1
 · rw [if_pos h1] at h
   obtain⟨c,rfl⟩:=Lib.one_byte a1 h1;obtain rfl:=Option.some.inj h
   exact(Any.stringslite_Index_one Tryz.lays219 a0 c w).mono fun e w' ⟨he,hw⟩=>⟨he,by rw[hw];exact cC.refl _⟩
 ·rw[if_neg h1]at h;cases h
def eM.f(s cs:ByteArray): Option ByteArray:=
 if s.size≤9223372036854775807 then(if cs.size<4294967281 then(if cs.data.toList.all (fun b=>decide (b.toNat<128))=true then some (mkB (Lib.trimS s.data.toList cs.data.toList))else none)else none)else none
theorem eM.c(a0 a1:ByteArray)(r:ByteArray)(w:World)(h:eM.f a0 a1=some r):
 Calls Tryz.prog 186 #[.string a0,.string a1] w fun e w'=>e = .returned (.string r)∧Below w.heap.size w w':=by
 unfold eM.f at h
 by_cases h1:a0.size≤9223372036854775807
 · by_cases h2 : a1.size < 4294967281
   · by_cases h3 : a1.data.toList.all (fun b => decide (b.toNat < 128)) = true
     · rw [if_pos h1, if_pos h2, if_pos h3] at h
       obtain rfl:=Option.some.inj h;exact Any.strings_Trim_ascii Tryz.lays160 (fun _=>by kernel_rfl) (by kernel_rfl) a0 a1 w h1 h2 (fun j b hj=>of_decide_eq_true (List.all_eq_true.1 h3 b (List.mem_of_getElem? hj)))
     ·rw[if_pos h1,if_pos h2,if_neg h3]at h;cases h
   ·rw[if_pos h1,if_neg h2]at h;cases h
 ·rw[if_neg h1]at h;cases h
end Go.Proofs.YtiegkjimpclmaaaGreatDoor.P
namespace Go.Proofs.YtiegkjimpclmaaaGreatDoor.P
open Go.Shelf Go.RowKit Go.Proofs.YtiegkjimpclmaaaGreatDoorW.PrintWords Go.Proofs.YtiegkjimpclmaaaGreatDoorW.PrintLast Go.Proofs.YtiegkjimpclmaaaGreatDoorW.PrintMore
set_option linter.unusedVariables false
set_option linter.unusedSimpArgs false
def dJ.f(l0 l1:List (S45)): Option (List (S45)):=if l0.length+l1.length<1000000 then some (l0++l1)else none
theorem qI(z:Array Value)(n:Nat): (Builtin.zeroCells z n).size=n*z.size:=by simp[Builtin.zeroCells]
theorem nb(n:Nat)(hn:n<1000000)(w:World): Calls Tryz.prog 198 #[.slice none 0 0,.int .i64 n] w fun e w'=> ∃ v,e = .returned v∧Kd.R k45 45 w' w.heap.size (fun _=>True) v []∧Below w.heap.size w w':=by
 by_cases h0:n=0
 · subst h0
   refine(Any8.slices_Grow_room (P:=Tryz.prog) (ρ:=Tryz.grow_ren) Tryz.grow none 0 0 0 w (Nat.le_refl _) (by omega) (by omega) (by omega)).mono ?_
   rintro e w' ⟨rfl,rfl⟩;exact⟨_,rfl,Kd.R_nil _ _ _ _ _,Below.refl _ _⟩
 · have hi := dz
   obtain⟨i0,hi0,hi1⟩:=Option.map_eq_some_iff.1 hi;simp only[Prod.mk.injEq]at hi1;obtain⟨hz,hs,hb⟩:=hi1
   refine(Any8.slices_Grow_grow (P:=Tryz.prog) (ρ:=Tryz.grow_ren) Tryz.grow i0 _ hi0 hz (by omega) none 0 0 n [] w (Nat.le_refl _) (by omega) (by rw[hb];omega) (by omega) (by simp) (fun _=>rfl) (fun a h=>by cases h)).mono ?_
   rintro e w' ⟨rfl,rfl⟩;refine⟨_,rfl,⟨fun _ _=>trivial,[],⟨by simp,.inr ⟨w.heap.size,_,_,rfl,Nat.le_refl _,World.alloc_heap_new w.drew _,Nat.zero_le _,grownCap_le_maxLen _ _ _ _ (by simp only[maxLen];omega),?_,by simp⟩⟩,br.none _ _⟩,bF (eV (Below.refl _ _)) _⟩;have hge:=grownCap_ge w (0+n) 0 45;simp only[Array.size_append,qI];show 0+(0+n-0)*4+(grownCap w (0+n) 0 45-(0+n))*4=grownCap w (0+n) 0 45*4;omega
def two(l0 l1:List (S45)): Nat→List (S45)
 | 0=>[]
 | 1=>l0
 | _=>l0++l1
set_option maxHeartbeats 4000000 in
set_option maxRecDepth 100000 in
theorem dJ.c(A0:Option Addr)(c0:Nat)(l0:List (S45))(A1:Option Addr)(c1:Nat)(l1 r:List (S45))(w:World)(hr0:Kd.C k45 w A0 l0.length l0)(hc0:l0.length≤c0)(hr1:Kd.C k45 w A1 l1.length l1)(hc1:l1.length≤c1)(h:dJ.f l0 l1=some r):
 Calls Tryz.prog 162 #[.slice (some ⟨w.heap.size,0,none⟩) 2 2] (w.alloc (.cells #[.slice A0 l0.length c0,.slice A1 l1.length c1] 27)) fun e w'=> ∃ v0_:Value,e = .returned (v0_)∧Kd.R k45 45 w' w.heap.size (fun _=>True) v0_ r∧Below w.heap.size w w':=by
 unfold dJ.f at h
 by_cases hlt:l0.length+l1.length<1000000
 · rw [if_pos hlt] at h
   obtain rfl:=Option.some.inj h;clear h;obtain⟨W,hW⟩:∃ W,W=w.alloc (.cells #[.slice A0 l0.length c0,.slice A1 l1.length c1] 27):=⟨_,rfl⟩;rw[← hW]
   have hb0:Below w.heap.size w W:=by rw[hW];exact bF (Below.refl _ _) _
   have hsz:W.heap.size=w.heap.size+1:=by rw[hW,World.size_alloc]
   have hk:W.heap[w.heap.size]? = some (.cells #[.slice A0 l0.length c0,.slice A1 l1.length c1] 27 (0,0)):=by rw[hW];exact World.alloc_heap_new _ _
   have hx0:W.cell? ⟨w.heap.size,0,none⟩=some (.slice A0 l0.length c0):=(af hk 0).trans rfl;have hx1:W.cell? ⟨w.heap.size,1,none⟩=some (.slice A1 l1.length c1):=(af hk 1).trans rfl;have HR0:=ab.mk (Kd.C_below hr0 hb0);have HR1:=ab.mk (Kd.C_below hr1 hb0);have HL:=ab.mk hlt;have HB0:=ab.mk hb0;have HS:=ab.mk hsz;have HX0:=ab.mk hx0;have HX1:=ab.mk hx1;clear hW hk hr0 hr1 hb0 hsz;have hu184:=Tryz.underlying184;have hu27:=Tryz.underlying27
   have s1:wrap64 (l0.length:Int)=(l0.length:Int):=by unfold wrap64;omega
   have s2:wrap64 ((l0.length:Int)+(l1.length:Int))=((l0.length+l1.length:Nat):Int):=by unfold wrap64;omega
   have s3:decide (wrap64 (l0.length:Int)<0)=false:=decide_eq_false (by rw[s1];omega);have s4:decide (wrap64 ((l0.length:Int)+(l1.length:Int))<0)=false:=decide_eq_false (by rw[s2];omega);clear hlt;go_enter Tryz.func162,Tryz.ntmps162;go_wp2;go_loopg [3,11] 3 (fun kq v3 g0 w'=> ∃ j:Nat,kq+j=3∧j≤2∧g0 = .int .i64 (j:Int)∧v3 = .int .i64 ((two l0 l1 j).length:Int)∧w'=W)
   case atStart=>exact⟨0,rfl,by omega,rfl,rfl,rfl⟩
   case round=>
    obtain⟨j,hj,hj2,rfl,rfl,rfl⟩:=hrel
    obtain rfl|rfl|rfl:j=0∨j=1∨j=2:=by omega
    · obtain rfl : gk = 3 := by omega
      have e0:((two l0 l1 0).length:Int)=0:=rfl;rw[e0];go_wp2;go_roundg 2
      case measure=>omega
      case rel=>exact⟨1,rfl,by omega,rfl,rfl,rfl⟩
    · obtain rfl : gk = 2 := by omega
      have e0:((two l0 l1 1).length:Int)=(l0.length:Int):=rfl;rw[e0];go_wp2;go_roundg 1
      case measure=>omega
      case rel=>exact⟨2,rfl,by omega,rfl,by simp[two],rfl⟩
    · have e0 : ((two l0 l1 2).length : Int) = ((l0.length + l1.length : Nat) : Int) := by simp [two]
      rw[e0];go_wp2_with (first|(go_at_call 198;refine(nb (l0.length+l1.length) HL.out _).mono ?_;rintro e w1 ⟨v1,rfl,hR,hb⟩));have HR:=ab.mk hR;have HBW:=ab.mk hb;clear hR hb s1 s2 s3 s4;obtain⟨W2,hW2⟩:∃ W2:World,W2=wr:=⟨_,rfl⟩;subst hW2;go_loopg [6,27] 3 (fun kq v6 g1 w'=> ∃ j:Nat,kq+j=3∧j≤2∧g1 = .int .i64 (j:Int)∧ab (Kd.R k45 45 w' W2.heap.size (fun _=>True) v6 (two l0 l1 j))∧ab (Below W2.heap.size W2 w'))
      case atStart=>exact⟨0,rfl,by omega,rfl,HR,HBW⟩
      case round=>
       clear HR HBW;obtain⟨j,hj,hj2,rfl,HR,HBW⟩:=hrel;have hy0:=(HBW.out.cell (World.block_lt_of_cell? _ _ hx0)).trans hx0;have hy1:=(HBW.out.cell (World.block_lt_of_cell? _ _ hx1)).trans hx1;clear hx0 hx1
       obtain rfl|rfl|rfl:j=0∨j=1∨j=2:=by omega
       · obtain rfl : gk = 3 := by omega
         go_wp2_with (first|((with_reducible refine bz (b:=.append) (xs:=#[.tmp 31,.tmp 32]) rfl ?_);at_builtin;refine Kd.R_append_rows k45 (w0:=W2) W2.heap.size rfl (.tmp 31) (.tmp 32) 27 45 (.agg #[(.string ⟨#[]⟩),(.int .i64 0),(.int .i64 0),(.string ⟨#[]⟩)]) 48 rfl Tryz.underlying27 dz rfl (by decide) (by omega) _ (two l0 l1 0) l0 _ _ _ (fun _=>True) (fun _=>False) rfl rfl ?aO ?aR (fun _ _ h=>h) (fun _ h=>h.elim) ?aF ?aB ?aS ?aL ?_;(case aR=>exact Kd.C_below HR0.out HBW.out);(case aB=>exact HBW.out);(case aF=>exact(fun _ _=>trivial));(case aO=>exact HR.out);(case aS=>exact HBW.out.size);(case aL=>have:=HL.out;simp only[two,List.length_nil];omega);intro v9 w9 ho hb9 hg hat));have HR2:=ab.mk (show Kd.R k45 45 w9 W2.heap.size (fun _=>True) v9 (two l0 l1 1)from ho);have HB2:=ab.mk hb9;clear HR HBW ho hb9 hg hat hy0 hy1;go_roundg 2
         case measure=>omega
         case rel=>exact⟨1,rfl,by omega,rfl,HR2,HB2⟩
       · obtain rfl : gk = 2 := by omega
         go_wp2_with (first|((with_reducible refine bz (b:=.append) (xs:=#[.tmp 31,.tmp 32]) rfl ?_);at_builtin;refine Kd.R_append_rows k45 (w0:=W2) W2.heap.size rfl (.tmp 31) (.tmp 32) 27 45 (.agg #[(.string ⟨#[]⟩),(.int .i64 0),(.int .i64 0),(.string ⟨#[]⟩)]) 48 rfl Tryz.underlying27 dz rfl (by decide) (by omega) _ (two l0 l1 1) l1 _ _ _ (fun _=>True) (fun _=>False) rfl rfl ?aO ?aR (fun _ _ h=>h) (fun _ h=>h.elim) ?aF ?aB ?aS ?aL ?_;(case aR=>exact Kd.C_below HR1.out HBW.out);(case aB=>exact HBW.out);(case aF=>exact(fun _ _=>trivial));(case aO=>exact HR.out);(case aS=>exact HBW.out.size);(case aL=>have:=HL.out;simp only[two,List.length_nil];omega);intro v9 w9 ho hb9 hg hat));have HR2:=ab.mk (show Kd.R k45 45 w9 W2.heap.size (fun _=>True) v9 (two l0 l1 2)from ho);have HB2:=ab.mk hb9;clear HR HBW ho hb9 hg hat hy0 hy1;go_roundg 1
         case measure=>omega
         case rel=>exact⟨2,rfl,by omega,rfl,HR2,HB2⟩
       · go_wp2
         go_ret;exact⟨_,rfl,Kd.R_lower HR.out (by rw[HS.out];omega),aa HB0.out HBW.out⟩
 · rw [if_neg hlt] at h
   cases h
end Go.Proofs.YtiegkjimpclmaaaGreatDoor.P
namespace Go.Proofs.YtiegkjimpclmaaaGreatDoor.P
open Go.RowKit Go.Proofs.YtiegkjimpclmaaaGreatDoorW.PrintWords Go.Proofs.YtiegkjimpclmaaaGreatDoorW.PrintLast
set_option linter.unusedVariables false
set_option maxHeartbeats 2000000 in
theorem oA(A:Option Addr)(c:Nat)(xs:List ByteArray)(g:Nat)(cb:Array Value)(p:ByteArray→Bool)(w:World)(hr:Kd.C Kd.string w A xs.length xs)
 (eg:∀ args w,(callFunc g args).run Tryz.prog w = .ok (.enter g args) w) (hp:jK g cb .string p xs w) :
 Calls Tryz.prog 185 #[.slice A xs.length c,.func (.func g) #[] cb] w fun e w'=>e = .returned (.int .i64 (dS p xs 0))∧Below w.heap.size w w':=by
 have hbig:xs.length≤9223372036854775807:=hr.2.1;go_enter Tryz.func185,Tryz.ntmps185;go_wp2;go_loopg [5,8] xs.length (fun gg _ s8 wr=> ∃ kk:Nat,kk≤xs.length∧xs.length-kk≤gg∧s8 = .int .i64 kk∧ab (Below w.heap.size w wr)∧ab (∀ j y,j<kk→xs[j]? = some y→p y=false))
 case atStart=>exact⟨0,Nat.zero_le _,by omega,rfl,⟨Below.refl _ w⟩,⟨fun j y hj=>absurd hj (Nat.not_lt_zero _)⟩⟩
 case round=>
  obtain⟨kk,hkk,hg,rfl,BW,AA⟩:=hrel
  by_cases hlt:kk<xs.length
  · have hltz : (kk : Int) < (xs.length : Int) := by omega
    obtain⟨ad,e0,hx⟩:=Kd.at_string hr (kk:Int) (by omega) hltz;cases e0;have l2:=(BW.out.cell (World.block_lt_of_cell? _ _ hx)).trans hx;clear hx;rw[Int.toNat_natCast]at l2
    have hmem:xs[kk]? = some (bn ByteArray.empty xs kk):=by
     rw[List.getElem?_eq_getElem hlt];simp[bn,List.getElem?_eq_getElem hlt]
    have hcall:=hp (bn ByteArray.empty xs kk) (List.mem_of_getElem? hmem) wr BW.out;clear hp;generalize hy:bn ByteArray.empty xs kk=y at l2 hcall hmem;have B:=ab.mk hmem;clear hmem hy
    have hkn:((kk:Int)).toNat=kk:=by omega
    cases hq:p y with
    | true=>
     rw[hq]at hcall;go_wp2_with (go_at_fn g;refine hcall.mono ?_;rintro e w' ⟨rfl,hb'⟩);go_ret;refine⟨?_,bj BW.out BW.out.size hb'⟩;rw[gK p xs 0 kk y B.out hq AA.out];simp
    | false=>
     rw[hq]at hcall;go_wp2_with (go_at_fn g;refine hcall.mono ?_;rintro e w' ⟨rfl,hb'⟩);go_roundg (xs.length-(kk+1))
     case measure=>omega
     case rel=>
      refine⟨kk+1,by omega,by omega,by go_num,⟨bj BW.out BW.out.size hb'⟩,⟨fun j z hj hz=>?_⟩⟩
      by_cases e:j=kk
      · subst e
        rw[B.out]at hz;cases hz;exact hq
      ·exact AA.out j z (by omega) hz
  · have hltz : ¬ (kk : Int) < (xs.length : Int) := by omega
    have hm:dS p xs 0 = -1:=gf p xs 0 (fun y hy=>by obtain⟨j,hj,e⟩:=List.mem_iff_getElem.1 hy;exact AA.out j y (by omega) (by rw[List.getElem?_eq_getElem hj,e]));have HM:=ab.mk hm;clear hm;go_wp2;go_ret;exact⟨by rw[HM.out];rfl,BW.out⟩
theorem iM(A:Option Addr)(c:Nat)(xs:List ByteArray)(g:Nat)(cb:Array Value)(p:ByteArray→Bool)(w:World)(hr:Kd.C Kd.string w A xs.length xs)
 (eg:∀ args w,(callFunc g args).run Tryz.prog w = .ok (.enter g args) w) (hp:jK g cb .string p xs w) :
 Calls Tryz.prog 145 #[.slice A xs.length c,.func (.func g) #[] cb] w fun e w'=>e = .returned (.bool (xs.any p))∧Below w.heap.size w w':=by
 rw[← jE p xs 0 (by omega)];go_enter Tryz.func145,Tryz.ntmps145;go_wp2_with (go_at_call 185;refine(oA A c xs g cb p _ hr eg hp).mono ?_;rintro e w' ⟨rfl,hb'⟩);go_ret;exact⟨rfl,hb'⟩
set_option maxHeartbeats 2000000 in
theorem ne(A:Option Addr)(c:Nat)(xs:List Int)(g:Nat)(cb:Array Value)(p:Int→Bool)(w:World)(hr:Kd.C (Kd.int .u8) w A xs.length xs)
 (eg:∀ args w,(callFunc g args).run Tryz.prog w = .ok (.enter g args) w) (hp:jK g cb (.int .u8) p xs w) :
 Calls Tryz.prog 153 #[.slice A xs.length c,.func (.func g) #[] cb] w fun e w'=>e = .returned (.int .i64 (dS p xs 0))∧Below w.heap.size w w':=by
 have hbig:xs.length≤9223372036854775807:=hr.2.1;go_enter Tryz.func153,Tryz.ntmps153;go_wp2;go_loopg [5,8] xs.length (fun gg _ s8 wr=> ∃ kk:Nat,kk≤xs.length∧xs.length-kk≤gg∧s8 = .int .i64 kk∧ab (Below w.heap.size w wr)∧ab (∀ j y,j<kk→xs[j]? = some y→p y=false))
 case atStart=>exact⟨0,Nat.zero_le _,by omega,rfl,⟨Below.refl _ w⟩,⟨fun j y hj=>absurd hj (Nat.not_lt_zero _)⟩⟩
 case round=>
  obtain⟨kk,hkk,hg,rfl,BW,AA⟩:=hrel
  by_cases hlt:kk<xs.length
  · have hltz : (kk : Int) < (xs.length : Int) := by omega
    obtain⟨ad,e0,hx⟩:=Kd.at_int hr (kk:Int) (by omega) hltz;cases e0;have l2:=(BW.out.cell (World.block_lt_of_cell? _ _ hx)).trans hx;clear hx;rw[Int.toNat_natCast]at l2
    have hmem:xs[kk]? = some (rd xs kk):=by
     rw[List.getElem?_eq_getElem hlt];simp[rd,List.getElem?_eq_getElem hlt]
    have hcall:=hp (rd xs kk) (List.mem_of_getElem? hmem) wr BW.out;clear hp;generalize hy:rd xs kk=y at l2 hcall hmem;have B:=ab.mk hmem;clear hmem hy
    have hkn:((kk:Int)).toNat=kk:=by omega
    cases hq:p y with
    | true=>
     rw[hq]at hcall;go_wp2_with (go_at_fn g;refine hcall.mono ?_;rintro e w' ⟨rfl,hb'⟩);go_ret;refine⟨?_,bj BW.out BW.out.size hb'⟩;rw[gK p xs 0 kk y B.out hq AA.out];simp
    | false=>
     rw[hq]at hcall;go_wp2_with (go_at_fn g;refine hcall.mono ?_;rintro e w' ⟨rfl,hb'⟩);go_roundg (xs.length-(kk+1))
     case measure=>omega
     case rel=>
      refine⟨kk+1,by omega,by omega,by go_num,⟨bj BW.out BW.out.size hb'⟩,⟨fun j z hj hz=>?_⟩⟩
      by_cases e:j=kk
      · subst e
        rw[B.out]at hz;cases hz;exact hq
      ·exact AA.out j z (by omega) hz
  · have hltz : ¬ (kk : Int) < (xs.length : Int) := by omega
    have hm:dS p xs 0 = -1:=gf p xs 0 (fun y hy=>by obtain⟨j,hj,e⟩:=List.mem_iff_getElem.1 hy;exact AA.out j y (by omega) (by rw[List.getElem?_eq_getElem hj,e]));have HM:=ab.mk hm;clear hm;go_wp2;go_ret;exact⟨by rw[HM.out];rfl,BW.out⟩
theorem kK(A:Option Addr)(c:Nat)(xs:List Int)(g:Nat)(cb:Array Value)(p:Int→Bool)(w:World)(hr:Kd.C (Kd.int .u8) w A xs.length xs)
 (eg:∀ args w,(callFunc g args).run Tryz.prog w = .ok (.enter g args) w) (hp:jK g cb (.int .u8) p xs w) :
 Calls Tryz.prog 93 #[.slice A xs.length c,.func (.func g) #[] cb] w fun e w'=>e = .returned (.bool (xs.any p))∧Below w.heap.size w w':=by
 rw[← jE p xs 0 (by omega)];go_enter Tryz.func93,Tryz.ntmps93;go_wp2_with (go_at_call 153;refine(ne A c xs g cb p _ hr eg hp).mono ?_;rintro e w' ⟨rfl,hb'⟩);go_ret;exact⟨rfl,hb'⟩
set_option maxHeartbeats 2000000 in
theorem oS(A:Option Addr)(c:Nat)(xs:List Int)(g:Nat)(cb:Array Value)(p:Int→Bool)(w:World)(hr:Kd.C (Kd.int .i64) w A xs.length xs)
 (eg:∀ args w,(callFunc g args).run Tryz.prog w = .ok (.enter g args) w) (hp:jK g cb (.int .i64) p xs w) :
 Calls Tryz.prog 242 #[.slice A xs.length c,.func (.func g) #[] cb] w fun e w'=>e = .returned (.int .i64 (dS p xs 0))∧Below w.heap.size w w':=by
 have hbig:xs.length≤9223372036854775807:=hr.2.1;go_enter Tryz.func242,Tryz.ntmps242;go_wp2;go_loopg [5,8] xs.length (fun gg _ s8 wr=> ∃ kk:Nat,kk≤xs.length∧xs.length-kk≤gg∧s8 = .int .i64 kk∧ab (Below w.heap.size w wr)∧ab (∀ j y,j<kk→xs[j]? = some y→p y=false))
 case atStart=>exact⟨0,Nat.zero_le _,by omega,rfl,⟨Below.refl _ w⟩,⟨fun j y hj=>absurd hj (Nat.not_lt_zero _)⟩⟩
 case round=>
  obtain⟨kk,hkk,hg,rfl,BW,AA⟩:=hrel
  by_cases hlt:kk<xs.length
  · have hltz : (kk : Int) < (xs.length : Int) := by omega
    obtain⟨ad,e0,hx⟩:=Kd.at_int hr (kk:Int) (by omega) hltz;cases e0;have l2:=(BW.out.cell (World.block_lt_of_cell? _ _ hx)).trans hx;clear hx;rw[Int.toNat_natCast]at l2
    have hmem:xs[kk]? = some (rd xs kk):=by
     rw[List.getElem?_eq_getElem hlt];simp[rd,List.getElem?_eq_getElem hlt]
    have hcall:=hp (rd xs kk) (List.mem_of_getElem? hmem) wr BW.out;clear hp;generalize hy:rd xs kk=y at l2 hcall hmem;have B:=ab.mk hmem;clear hmem hy
    have hkn:((kk:Int)).toNat=kk:=by omega
    cases hq:p y with
    | true=>
     rw[hq]at hcall;go_wp2_with (go_at_fn g;refine hcall.mono ?_;rintro e w' ⟨rfl,hb'⟩);go_ret;refine⟨?_,bj BW.out BW.out.size hb'⟩;rw[gK p xs 0 kk y B.out hq AA.out];simp
    | false=>
     rw[hq]at hcall;go_wp2_with (go_at_fn g;refine hcall.mono ?_;rintro e w' ⟨rfl,hb'⟩);go_roundg (xs.length-(kk+1))
     case measure=>omega
     case rel=>
      refine⟨kk+1,by omega,by omega,by go_num,⟨bj BW.out BW.out.size hb'⟩,⟨fun j z hj hz=>?_⟩⟩
      by_cases e:j=kk
      · subst e
        rw[B.out]at hz;cases hz;exact hq
      ·exact AA.out j z (by omega) hz
  · have hltz : ¬ (kk : Int) < (xs.length : Int) := by omega
    have hm:dS p xs 0 = -1:=gf p xs 0 (fun y hy=>by obtain⟨j,hj,e⟩:=List.mem_iff_getElem.1 hy;exact AA.out j y (by omega) (by rw[List.getElem?_eq_getElem hj,e]));have HM:=ab.mk hm;clear hm;go_wp2;go_ret;exact⟨by rw[HM.out];rfl,BW.out⟩
end Go.Proofs.YtiegkjimpclmaaaGreatDoor.P
namespace Go.Proofs.YtiegkjimpclmaaaGreatDoor.P
open Go.RowKit Go.Proofs.YtiegkjimpclmaaaGreatDoorW.PrintWords Go.Proofs.YtiegkjimpclmaaaGreatDoorW.PrintLast Go.Proofs.YtiegkjimpclmaaaGreatDoorW.PrintMore
set_option linter.unusedVariables false
set_option linter.unusedSimpArgs false
theorem sP{P:Program}{md:Region.Mode}{ops:Array Oper}{Q:Exit→Act→World→Prop}{S:World→Prop}{ds:List Nat}{fuel:Nat}{l:Array Bool}{a a':Act}{w:World}{oi:Oper}{v:Value}(i:Nat)(N:Option Tmp)
 (h:aZ P md ops Q S ds fuel (l.setIfInBounds i true) a' w) (hi:ops[i]? = some oi:=by rfl) (hN:oi.dst=N:=by rfl) (hc:mv md ops l (l.setIfInBounds i true) i=true:=by exact fw HT_.out (by kernel_rfl))
 (hQ:∀ c a w,Q (.panic c) (a.put oi.dst v) w→Q (.panic c) a w:=by exact fun _ _ _ h=>h) (hy:Yields P ops oi v a:=by exact Or.inl ⟨by rfl,by intro w';go_simp;with_reducible rfl⟩)
 (ha:a.put N v=a':=by simp only[Act.put,List.setIfInBounds_toArray,List.set_cons_zero,List.set_cons_succ,bu,bI];rfl):aZ P md ops Q S ds (fuel+1) l a w:=dE _ hi hN hc hQ hy ha h
theorem sO{P:Program}{md:Region.Mode}{ops:Array Oper}{Q:Exit→Act→World→Prop}{S:World→Prop}{ds:List Nat}{fuel:Nat}{l:Array Bool}{a a':Act}{w:World}{oi:Oper}(i:Nat)(N:Option Tmp)
 (h:aZ P md ops Q S ds fuel (l.setIfInBounds i true) a' w) (hi:ops[i]? = some oi:=by rfl) (hN:oi.dst=N:=by rfl) (hc:mv md ops l (l.setIfInBounds i true) i=true:=by exact fw HT_.out (by kernel_rfl))
 (hQ:∀ c a w,Q (.panic c) (a.put oi.dst undef) w→Q (.panic c) a w:=by exact fun _ _ _ h=>h) (hy:Yields P ops oi undef a:=by exact Or.inr ⟨by rfl,rfl⟩)
 (ha:a.put N undef=a':=by simp only[Act.put,List.setIfInBounds_toArray,List.set_cons_zero,List.set_cons_succ,bu,bI];rfl):aZ P md ops Q S ds (fuel+1) l a w:=dE _ hi hN hc hQ hy ha h
theorem sM{P:Program}{md:Region.Mode}{ops:Array Oper}{Q:Exit→Act→World→Prop}{S:World→Prop}{ds:List Nat}{fuel:Nat}{l:Array Bool}{a a':Act}{w:World}{oi:Oper}{v:Value}(i:Nat)(N:Option Tmp)
 (h:aZ P md ops Q S ds fuel (l.setIfInBounds i true) a' w) (hi:ops[i]? = some oi:=by rfl) (hN:oi.dst=N:=by rfl) (hc:jl md ops ds l (l.setIfInBounds i true) i=true:=by exact iK HT_.out HW_.out (by kernel_rfl))
 (hQ:∀ c a w,Q (.panic c) (a.put oi.dst v) w→Q (.panic c) a w:=by exact fun _ _ _ h=>h) (hy:YieldsIf P ops S oi v a:=by exact Or.inl ⟨by rfl,by intro w' hs_;(repeat(refine And.elim (fun _ hs_=>?_) hs_));go_simp;with_reducible rfl⟩)
 (hS:S w:=by exact hHeld) (ha:a.put N v=a':=by simp only[Act.put,List.setIfInBounds_toArray,List.set_cons_zero,List.set_cons_succ,bu,bI];rfl):aZ P md ops Q S ds (fuel+1) l a w:=take_ _ hi hN hc hQ hy hS ha h
theorem dg{P:Program}{md:Region.Mode}{ops:Array Oper}{Q:Exit→Act→World→Prop}{S:World→Prop}{ds:List Nat}{fuel:Nat}{l:Array Bool}{a:Act}{w:World}{oi:Oper}(i:Nat)(N:Option Tmp)
 (h:∀ K:Act→World→Prop,Shut (∀ a' w',S w'→(S w'→aZ P md ops Q S ds fuel (l.setIfInBounds i true) a' w')→K a' w')→if Region.wanted oi (yielded ops a.tmps)=true then Oper.wp P oi a w K Q else K (a.put N undef) w)
 (hi:ops[i]? = some oi:=by rfl) (hN:oi.dst=N:=by rfl) (hc:ip md ops l (l.setIfInBounds i true) i=true:=by exact fY HT_.out (by kernel_rfl)) (hd:i∉ds:=by decide):aZ P md ops Q S ds (fuel+1) l a w:=lN _ hi hN hc hd h
theorem cU{P:Program}{md:Region.Mode}{ops:Array Oper}{Q:Exit→Act→World→Prop}{S:World→Prop}{ds:List Nat}{fuel:Nat}{l:Array Bool}{a a':Act}{w:World}(h:aZ P md ops Q S ds fuel l a' w)
 (ha:a=a':=by show Act.put _ _ _=_;simp only[Act.put,List.setIfInBounds_toArray,List.set_cons_zero,List.set_cons_succ,bu,bI];rfl):aZ P md ops Q S ds fuel l a w:=fi ha h
abbrev nw_(k:Nat)(a:Option Addr)(n c:Nat): Prop:=some k≠(Value.slice a n c).ownBlock
theorem dr{p:Prop}[Decidable p](h:decide p=true:=by first|(with_reducible assumption)|assumption): p:=of_decide_eq_true h
theorem a0_{p:Prop}(h:p): ab p:=⟨h⟩
theorem gw_{b g:Nat}{w:World}(hg:g=w.heap.size)(h:b≤w.heap.size:=by exact aj ay): b≤g:=by rw[hg];exact h
theorem qU{w w':World}{p0 p1:Addr}{u0 u1:Value}(hb:Below w.heap.size w w')(h0:w.cell? p0=some u0)(h1:w.cell? p1=some u1): w'.cell? p0=some u0∧w'.cell? p1=some u1:=⟨(hb.cell (World.block_lt_of_cell? w _ h0)).trans h0,(hb.cell (World.block_lt_of_cell? w _ h1)).trans h1⟩
theorem sy{w w':World}{p0 p1 p2 p3:Addr}{u0 u1 u2 u3:Value}(hb:Below w.heap.size w w')(h0:w.cell? p0=some u0)(h1:w.cell? p1=some u1)(h2:w.cell? p2=some u2)(h3:w.cell? p3=some u3): w'.cell? p0=some u0∧w'.cell? p1=some u1∧w'.cell? p2=some u2∧w'.cell? p3=some u3:=
 ⟨(qU hb h0 h1).1,(qU hb h0 h1).2,(qU hb h2 h3).1,(qU hb h2 h3).2⟩
theorem fl{w:World}{g:Nat}{t:TypeId}{z0 z1 z2 z3 a b c d:Value}(h:w.heap[g]? = some (.cells #[z0,z1,z2,z3] t (0,0))): ((((w.setCell ⟨g,0,none⟩ a).setCell ⟨g,1,none⟩ b).setCell ⟨g,2,none⟩ c).setCell ⟨g,3,none⟩ d).heap[g]? = some (.cells #[a,b,c,d] t (0,0)):=by
 refine bE (cs:=#[a,b,c,z3]) ?_ 3 _ rfl
 refine bE (cs:=#[a,b,z2,z3]) ?_ 2 _ rfl
 refine bE (cs:=#[a,z1,z2,z3]) ?_ 1 _ rfl
 refine bE (cs:=#[z0,z1,z2,z3]) ?_ 0 _ rfl
 exact h
theorem vv_{w:World}(h:Vars w:=by first|assumption|(refine Vars.below (ab.out (by assumption)) ?_;repeat(first|(with_reducible first|exact Below.refl _ _|exact ab.out (by assumption)|apply bF|apply bv|apply bp|refine cz ?_ (ab.out (by assumption)))|exact ab.out (by assumption)))): Vars w:=h
theorem cS{x y:Array Value}(h:x=y:=by(try simp only[List.map_toArray,List.map_cons,List.map_nil]);first|done|rfl|(simp only[List.length_drop,List.length_take];rfl)): x=y:=h
theorem kR_{α:Type}{d:Kd α}{e:Nat}{w w':World}{base:Nat}{ok:Nat→Prop}{v:Value}{xs:List α}(hx:d.R e w base ok v xs)(h:d.R e w base ok v xs→d.R e w' base ok v xs:=by intro hx_;(with_reducible repeat(first|apply Kd.R_alloc|apply Kd.R_drewN|apply Kd.R_drew));exact hx_): d.R e w' base ok v xs:=h hx
theorem kB_{w w':World}{g:Nat}{o:Obj}(hx:w.heap[g]? = some o)(h:w.heap[g]? = some o→w'.heap[g]? = some o:=by intro hx_;(with_reducible repeat(first|refine aI ?_ _|refine az ?_|refine aE ?_ _));exact hx_): w'.heap[g]? = some o:=h hx
theorem kC_{α:Type}{d:Kd α}{w w1 w2:World}{A:Option Addr}{n:Nat}{xs:List α}(hr:Kd.C d w A n xs)(hb:Below w.heap.size w w1)(h:Kd.C d w1 A n xs→Kd.C d w2 A n xs:=by intro hx_;repeat(first|exact hx_|(with_reducible refine Kd.C_alloc ?_ _)|(with_reducible refine Kd.C_drewN ?_ _)|(with_reducible refine Kd.C_drew ?_))): Kd.C d w2 A n xs:=h (Kd.C_below hr hb)
theorem cm{P:Program}{ops:Array Oper}{Q:Exit→Act→World→Prop}{o:Oper}{rest:List Oper}{a:Act}{W:World}(N:Tmp)(cs:Array Value)(t:TypeId)
 (h:∀ g,g=W.heap.size→∀ w1,w1.heap[g]? = some (.cells cs t (0,0))→Below W.heap.size W w1→wpList P ops Q rest (a.put o.dst (.pointer (some ⟨g,0,none⟩))) w1)
 (hd:o.dst=some N:=by rfl) (hgd:o.guard=none:=by rfl) (hrun:(execOp a.eval o).run P W = .ok (.value (.pointer (some ⟨W.heap.size,0,none⟩))) (W.alloc (.cells cs t (0,0))):=by first|(go_simp;done)|(go_simp;rfl)):wpList P ops Q (o::rest) a W:=oO hgd hd hrun h
theorem lF{α:Type}{d:Kd α}{e:Nat}{w:World}{base:Nat}{ok:Nat→Prop}{v:Value}{xs:List α}{g:Nat}{cs:Array Value}{t:TypeId}{a0 a1 a2 a3:Value}(hx:d.R e w base ok v xs)(bk:w.heap[g]? = some (.cells cs t (0,0)))(ht:∀ (q:Nat),q∈e::d.E→q≠t:=by decide): d.R e ((((w.setCell ⟨g,0,none⟩ a0).setCell ⟨g,1,none⟩ a1).setCell ⟨g,2,none⟩ a2).setCell ⟨g,3,none⟩ a3) base ok v xs:=Kd.R_mono (Kd.R_far (p:=⟨g,3,none⟩) (Kd.R_far (p:=⟨g,2,none⟩) (Kd.R_far (p:=⟨g,1,none⟩) (Kd.R_far (p:=⟨g,0,none⟩) (Kd.R_types hx bk ht) (fun _ hk=>hk.2) a0) (fun _ hk=>hk.2) a1) (fun _ hk=>hk.2) a2) (fun _ hk=>hk.2) a3) (fun _ h_=>h_.1)
theorem kE{α:Type}{d:Kd α}{e:Nat}{w:World}{base:Nat}{ok:Nat→Prop}{v:Value}{xs:List α}{g:Nat}{cs:Array Value}{t:TypeId}{a0 a1 a2 a3 a4 a5 a6 a7:Value}(hx:d.R e w base ok v xs)(bk:w.heap[g]? = some (.cells cs t (0,0)))(ht:∀ (q:Nat),q∈e::d.E→q≠t:=by decide): d.R e ((((((((w.setCell ⟨g,0,none⟩ a0).setCell ⟨g,1,none⟩ a1).setCell ⟨g,2,none⟩ a2).setCell ⟨g,3,none⟩ a3).setCell ⟨g,4,none⟩ a4).setCell ⟨g,5,none⟩ a5).setCell ⟨g,6,none⟩ a6).setCell ⟨g,7,none⟩ a7) base ok v xs:=Kd.R_mono (Kd.R_far (p:=⟨g,7,none⟩) (Kd.R_far (p:=⟨g,6,none⟩) (Kd.R_far (p:=⟨g,5,none⟩) (Kd.R_far (p:=⟨g,4,none⟩) (Kd.R_far (p:=⟨g,3,none⟩) (Kd.R_far (p:=⟨g,2,none⟩) (Kd.R_far (p:=⟨g,1,none⟩) (Kd.R_far (p:=⟨g,0,none⟩) (Kd.R_types hx bk ht) (fun _ hk=>hk.2) a0) (fun _ hk=>hk.2) a1) (fun _ hk=>hk.2) a2) (fun _ hk=>hk.2) a3) (fun _ hk=>hk.2) a4) (fun _ hk=>hk.2) a5) (fun _ hk=>hk.2) a6) (fun _ hk=>hk.2) a7) (fun _ h_=>h_.1)
theorem rr_{p:Prop}(h:p:=by first|rfl|(simp[bY,bZ]<;>rfl)|(simp[*,bY,bZ]<;>rfl)): p:=h
theorem rs_{p:Prop}(h:p:=by first|rfl|(simp;done)|(simp[*];done)): p:=h
theorem dr_{p:Prop}(h:p:=by repeat(first|exact cC.refl _|apply cC.step)): p:=h
theorem kD_{α:Type}{d:Kd α}{w1 w2:World}{A:Option Addr}{n:Nat}{xs:List α}(hr:Kd.C d w1 A n xs)(h:Kd.C d w1 A n xs→Kd.C d w2 A n xs:=by intro hx_;repeat(first|exact hx_|(with_reducible refine Kd.C_alloc ?_ _)|(with_reducible refine Kd.C_drewN ?_ _)|(with_reducible refine Kd.C_drew ?_))): Kd.C d w2 A n xs:=h hr
theorem fy{w:World}{g:Nat}{t:TypeId}{z0 z1 z2 z3 z4 z5 z6 z7 a0 a1 a2 a3 a4 a5 a6 a7:Value}(h:w.heap[g]? = some (.cells #[z0,z1,z2,z3,z4,z5,z6,z7] t (0,0))): ((((((((w.setCell ⟨g,0,none⟩ a0).setCell ⟨g,1,none⟩ a1).setCell ⟨g,2,none⟩ a2).setCell ⟨g,3,none⟩ a3).setCell ⟨g,4,none⟩ a4).setCell ⟨g,5,none⟩ a5).setCell ⟨g,6,none⟩ a6).setCell ⟨g,7,none⟩ a7).heap[g]? = some (.cells #[a0,a1,a2,a3,a4,a5,a6,a7] t (0,0)):=by
 refine bE (cs:=#[a0,a1,a2,a3,a4,a5,a6,z7]) ?_ 7 _ rfl
 refine bE (cs:=#[a0,a1,a2,a3,a4,a5,z6,z7]) ?_ 6 _ rfl
 refine bE (cs:=#[a0,a1,a2,a3,a4,z5,z6,z7]) ?_ 5 _ rfl
 refine bE (cs:=#[a0,a1,a2,a3,z4,z5,z6,z7]) ?_ 4 _ rfl
 refine bE (cs:=#[a0,a1,a2,z3,z4,z5,z6,z7]) ?_ 3 _ rfl
 refine bE (cs:=#[a0,a1,z2,z3,z4,z5,z6,z7]) ?_ 2 _ rfl
 refine bE (cs:=#[a0,z1,z2,z3,z4,z5,z6,z7]) ?_ 1 _ rfl
 refine bE (cs:=#[z0,z1,z2,z3,z4,z5,z6,z7]) ?_ 0 _ rfl
 exact h
theorem iW{w:World}{g b i0 i1:Nat}{t:TypeId}{cs:Array Value}{a0 a1:Value}(hn:b≠g)(h:w.heap[b]? = some (.cells cs t (0,0))): ((w.setCell ⟨g,i0,none⟩ a0).setCell ⟨g,i1,none⟩ a1).heap[b]? = some (.cells cs t (0,0)):=by
 refine dB (p:=⟨g,i1,none⟩) ?_ hn _
 refine dB (p:=⟨g,i0,none⟩) ?_ hn _
 exact h
theorem ir{w:World}{g b i0 i1 i2 i3:Nat}{t:TypeId}{cs:Array Value}{a0 a1 a2 a3:Value}(hn:b≠g)(h:w.heap[b]? = some (.cells cs t (0,0))): ((((w.setCell ⟨g,i0,none⟩ a0).setCell ⟨g,i1,none⟩ a1).setCell ⟨g,i2,none⟩ a2).setCell ⟨g,i3,none⟩ a3).heap[b]? = some (.cells cs t (0,0)):=by
 refine dB (p:=⟨g,i3,none⟩) ?_ hn _
 refine dB (p:=⟨g,i2,none⟩) ?_ hn _
 refine dB (p:=⟨g,i1,none⟩) ?_ hn _
 refine dB (p:=⟨g,i0,none⟩) ?_ hn _
 exact h
theorem kw{w:World}{g b i0 i1 i2 i3 i4 i5 i6 i7:Nat}{t:TypeId}{cs:Array Value}{a0 a1 a2 a3 a4 a5 a6 a7:Value}(hn:b≠g)(h:w.heap[b]? = some (.cells cs t (0,0))): ((((((((w.setCell ⟨g,i0,none⟩ a0).setCell ⟨g,i1,none⟩ a1).setCell ⟨g,i2,none⟩ a2).setCell ⟨g,i3,none⟩ a3).setCell ⟨g,i4,none⟩ a4).setCell ⟨g,i5,none⟩ a5).setCell ⟨g,i6,none⟩ a6).setCell ⟨g,i7,none⟩ a7).heap[b]? = some (.cells cs t (0,0)):=by
 refine dB (p:=⟨g,i7,none⟩) ?_ hn _
 refine dB (p:=⟨g,i6,none⟩) ?_ hn _
 refine dB (p:=⟨g,i5,none⟩) ?_ hn _
 refine dB (p:=⟨g,i4,none⟩) ?_ hn _
 refine dB (p:=⟨g,i3,none⟩) ?_ hn _
 refine dB (p:=⟨g,i2,none⟩) ?_ hn _
 refine dB (p:=⟨g,i1,none⟩) ?_ hn _
 refine dB (p:=⟨g,i0,none⟩) ?_ hn _
 exact h
end Go.Proofs.YtiegkjimpclmaaaGreatDoor.P
namespace Go.Proofs.YtiegkjimpclmaaaGreatDoor.P
open Go.RowKit Go.Proofs.YtiegkjimpclmaaaGreatDoorW.PrintWords Go.Proofs.YtiegkjimpclmaaaGreatDoorW.PrintLast Go.Proofs.YtiegkjimpclmaaaGreatDoorW.PrintMore
attribute [local go_sem] cG cD c_ cZ ci ch cE cH
set_option linter.unusedVariables false
set_option linter.unusedSimpArgs false
def bO.f(a0:ByteArray): Option (Bool):=some (a0.toList !=a0.toList)
set_option maxHeartbeats 8000000 in
set_option maxRecDepth 100000 in
theorem bO.c(a0:ByteArray)(r:Bool)(w:World)(h:bO.f a0=some r):
 Calls Tryz.prog 248 #[.string a0] w fun e w'=>e = .returned (.bool r)∧cC w w':=by
 have H:(some (a0.toList !=a0.toList))=some r:=h;clear h;obtain rfl:=Option.some.inj H;go_enter Tryz.func248,Tryz.ntmps248;go_wp2;go_ret;exact⟨rs_,dr_⟩
def ct.f(a0:Int): Option (Bool):=some (a0 !=a0)
set_option maxHeartbeats 8000000 in
set_option maxRecDepth 100000 in
theorem ct.c(a0:Int)(r:Bool)(w:World)(h:ct.f a0=some r):
 Calls Tryz.prog 179 #[.int .i64 a0] w fun e w'=>e = .returned (.bool r)∧cC w w':=by
 have H:(some (a0 !=a0))=some r:=h;clear h;obtain rfl:=Option.some.inj H;go_enter Tryz.func179,Tryz.ntmps179;go_wp2;go_ret;exact⟨rs_,dr_⟩
end Go.Proofs.YtiegkjimpclmaaaGreatDoor.P
namespace Go.Proofs.YtiegkjimpclmaaaGreatDoor.P
open Go.RowKit Go.Proofs.YtiegkjimpclmaaaGreatDoorW.PrintWords Go.Proofs.YtiegkjimpclmaaaGreatDoorW.PrintLast Go.Proofs.YtiegkjimpclmaaaGreatDoorW.PrintMore
set_option linter.unusedVariables false
set_option linter.unusedSimpArgs false
abbrev mU:=S45
abbrev MR1(w W:World)(ok:Nat→Prop)(v:Value)(l:List mU): Prop:=Kd.R k45 45 W w.heap.size ok v l
structure MV where
 (u v:Value)
 (lo hi:Nat)
 (x y:List mU)
structure Al (w W:World) (bs:List (Nat×Array Value×TypeId)) (ms:List MV):Prop where
 b:Below w.heap.size w W
 k:∀ p∈bs,W.heap[p.1]? = some (.cells p.2.1 p.2.2 (0,0))
 t:∀ p∈bs,45≠p.2.2∧w.heap.size≤p.1
 r:∀ q∈ms,MR1 w W (fun k=>(q.lo≤k∧k<q.hi)∧some k≠q.v.ownBlock) q.u q.x∧MR1 w W (fun k=>(q.lo≤k∧k<q.hi)∧some k≠q.u.ownBlock) q.v q.y
 h:∀ q∈ms,q.hi≤W.heap.size
 p:ms.Pairwise fun a b=>b.hi≤a.lo
section
variable {w W W':World} {bs:List (Nat×Array Value×TypeId)} {ms A B:List MV} {g lo hi c6 c7 d6 d7 k:Nat} {A6 A7 D6 D7:Option Addr} {x y x' y':List mU}
theorem Al.new(w:World): Al w w [] []:=⟨Below.refl _ _,(fun _ h=>nomatch h),(fun _ h=>nomatch h),(fun _ h=>nomatch h),(fun _ h=>nomatch h),List.Pairwise.nil⟩
theorem Al.below(a:Al w W bs ms)(hb:Below W.heap.size W W'): Al w W' bs ms:=
 ⟨aa a.b hb,fun p hp=>b_ (a.k p hp) hb,a.t,fun q hq=>⟨Kd.R_below (a.r q hq).1 hb,Kd.R_below (a.r q hq).2 hb⟩,fun q hq=>Nat.le_trans (a.h q hq) hb.size,a.p⟩
theorem Al.drewN(a:Al w W bs ms)(n:Nat): Al w (W.drewN n) bs ms:=a.below (bv (Below.refl _ _) n)
theorem Al.drew(a:Al w W bs ms): Al w W.drew bs ms:=a.below (eV (Below.refl _ _))
theorem Al.box{cs:Array Value}{t:TypeId}(a:Al w W bs ms)(hg:g=W.heap.size)(hbox:W'.heap[g]? = some (.cells cs t (0,0)))(hb:Below W.heap.size W W')(ht:45≠t): Al w W' ((g,cs,t)::bs) ms:=by
 have a':=a.below hb;refine⟨a'.b,fun p hp=>?_,fun p hp=>?_,a'.r,a'.h,a'.p⟩
 · rcases List.mem_cons.1 hp with rfl | hp
   ·exact hbox
   ·exact a'.k p hp
 · rcases List.mem_cons.1 hp with rfl | hp
   ·exact⟨ht,by rw[hg];exact a.b.size⟩
   ·exact a.t p hp
theorem Al.far(a:Al w W bs ms)(hg:g=W.heap.size): ∀ p∈bs,p.1≠g:=fun p hp e=>by have:=cB (a.k p hp);omega
theorem Al.put8{z0 z1 z2 z3 z4 z5 z6 z7 a0 a1 a2 a3 a4 a5 a6 a7:Value}{t:TypeId}(a:Al w W ((g,#[z0,z1,z2,z3,z4,z5,z6,z7],t)::bs) ms)(hne:∀ p∈bs,p.1≠g)(ht:∀ q,q∈45::k45.E→q≠t):
 Al w ((((((((W.setCell ⟨g,0,none⟩ a0).setCell ⟨g,1,none⟩ a1).setCell ⟨g,2,none⟩ a2).setCell ⟨g,3,none⟩ a3).setCell ⟨g,4,none⟩ a4).setCell ⟨g,5,none⟩ a5).setCell ⟨g,6,none⟩ a6).setCell ⟨g,7,none⟩ a7) ((g,#[a0,a1,a2,a3,a4,a5,a6,a7],t)::bs) ms:=by
 have hk:=a.k _ (.head _);have hs:=(a.t _ (.head _)).2;refine⟨cz (cz (cz (cz (cz (cz (cz (cz a.b hs) hs) hs) hs) hs) hs) hs) hs,fun p hp=>?_,fun p hp=>?_,fun q hq=>⟨kE (a.r q hq).1 hk ht,kE (a.r q hq).2 hk ht⟩,fun q hq=>?_,a.p⟩
 · rcases List.mem_cons.1 hp with rfl | hp
   ·exact fy hk
   ·exact kw (hne p hp) (a.k p (.tail _ hp))
 · rcases List.mem_cons.1 hp with rfl | hp
   ·exact a.t (g,#[z0,z1,z2,z3,z4,z5,z6,z7],t) (.head _)
   ·exact a.t _ (.tail _ hp)
 · have := a.h q hq
   simpa [World.setCell]using this
theorem Al.rows{u v:Value}(a:Al w W bs ms)(hb:Below W.heap.size W W')(h0:Kd.R k45 45 W' W.heap.size (fun k_=>some k_≠v.ownBlock) u x)(h1:Kd.R k45 45 W' W.heap.size (fun k_=>some k_≠u.ownBlock) v y): Al w W' bs (⟨u,v,W.heap.size,W'.heap.size,x,y⟩::ms):=by
 have a':=a.below hb;refine⟨a'.b,a'.k,a'.t,fun q hq=>?_,fun q hq=>?_,List.pairwise_cons.2 ⟨a.h,a'.p⟩⟩
 · rcases List.mem_cons.1 hq with rfl | hq
   ·exact⟨Kd.R_mono (Kd.R_lower (Kd.R_bound h0) a.b.size) (fun k hk=>⟨⟨hk.2.1,hk.2.2.1⟩,hk.1⟩),Kd.R_mono (Kd.R_lower (Kd.R_bound h1) a.b.size) (fun k hk=>⟨⟨hk.2.1,hk.2.2.1⟩,hk.1⟩)⟩
   ·exact a'.r q hq
 · rcases List.mem_cons.1 hq with rfl | hq
   ·exact Nat.le_refl _
   ·exact a'.h q hq
theorem Al.mark{u v:Value}(a:Al w W bs (A ++ ⟨u,v,lo,hi,x,y⟩::B))(hb:Below w.heap.size w W')(hk:cW W W' (fun k_=>some k_=u.ownBlock∨some k_=v.ownBlock)){P6 P7:Nat→Prop}(h0:MR1 w W' P6 u x')(h1:MR1 w W' P7 v y'): Al w W' bs (A ++ ⟨u,v,lo,hi,x',y'⟩::B):=by
 have hm:=a.r ⟨u,v,lo,hi,x,y⟩ (List.mem_append_right _ (.head _));obtain⟨p1,p2,p3⟩:=List.pairwise_append.1 a.p;obtain⟨p4,p5⟩:=List.pairwise_cons.1 p2
 have far:∀ q:MV,(hi≤q.lo∨q.hi≤lo)→(∀ k,(q.lo≤k∧k<q.hi)→¬ (some k=u.ownBlock∨some k=v.ownBlock)):=fun q hq k hk' hs=>by
  rcases hs with hs|hs
  ·have:=(hm.1.1 k hs.symm).1;dsimp only at this;omega
  ·have:=(hm.2.1 k hs.symm).1;dsimp only at this;omega
 have old:∀ q:MV,q∈A ++ ⟨u,v,lo,hi,x,y⟩::B→(hi≤q.lo∨q.hi≤lo)→MR1 w W' (fun k=>(q.lo≤k∧k<q.hi)∧some k≠q.v.ownBlock) q.u q.x∧MR1 w W' (fun k=>(q.lo≤k∧k<q.hi)∧some k≠q.u.ownBlock) q.v q.y:=fun q hq hd=>
  ⟨Kd.R_kept (a.r q hq).1 hk (fun k hk'=>far q hd k hk'.1),Kd.R_kept (a.r q hq).2 hk (fun k hk'=>far q hd k hk'.1)⟩
 refine⟨hb,fun p hp=>kn (a.k p hp) hk ?_,a.t,fun q hq=>?_,fun q hq=>?_,List.pairwise_append.2 ⟨p1,List.pairwise_cons.2 ⟨p4,p5⟩,fun q hq q' hq'=>?_⟩⟩
 · rintro (e | e)
   ·exact Kd.R_ne hm.1 (a.k p hp) (a.t p hp).1 e
   ·exact Kd.R_ne hm.2 (a.k p hp) (a.t p hp).1 e
 · rcases List.mem_append.1 hq with hq | hq
   ·exact old q (List.mem_append_left _ hq) (.inl (p3 q hq _ (.head _)))
   · rcases List.mem_cons.1 hq with rfl | hq
     ·exact⟨Kd.R_reok rfl h0 (fun k e=>hm.1.1 k e),Kd.R_reok rfl h1 (fun k e=>hm.2.1 k e)⟩
     ·exact old q (List.mem_append_right _ (.tail _ hq)) (.inr (p4 q hq))
 · rcases List.mem_append.1 hq with hq | hq
   ·exact Nat.le_trans (a.h q (List.mem_append_left _ hq)) hk.1
   · rcases List.mem_cons.1 hq with rfl | hq
     ·exact Nat.le_trans (a.h ⟨u,v,lo,hi,x,y⟩ (List.mem_append_right _ (.head _))) hk.1
     ·exact Nat.le_trans (a.h q (List.mem_append_right _ (.tail _ hq))) hk.1
 · rcases List.mem_cons.1 hq' with rfl | hq'
   ·exact p3 q hq ⟨u,v,lo,hi,x,y⟩ (.head _)
   ·exact p3 q hq _ (.tail _ hq')
theorem Al.rd{n6 n7:Nat}(a:Al w W bs ms)(hq:(⟨.slice A6 n6 c6,.slice A7 n7 c7,lo,hi,x,y⟩:MV)∈ms): (Kd.C k45 W A6 x.length x∧n6=x.length∧x.length≤c6)∧Kd.C k45 W A7 y.length y∧n7=y.length∧y.length≤c7:=by
 have h0:=Kd.R_reads' (a.r _ hq).1;have h1:=Kd.R_reads' (a.r _ hq).2;exact⟨⟨h0.2.2,h0.1,h0.1▸h0.2.1⟩,h1.2.2,h1.1,h1.1▸h1.2.1⟩
end
end Go.Proofs.YtiegkjimpclmaaaGreatDoor.P
namespace Go.Proofs.YtiegkjimpclmaaaGreatDoor.P
open Go.RowKit Go.Proofs.YtiegkjimpclmaaaGreatDoorW.PrintWords Go.Proofs.YtiegkjimpclmaaaGreatDoorW.PrintLast Go.Proofs.YtiegkjimpclmaaaGreatDoorW.PrintMore
set_option linter.unusedVariables false
set_option linter.unusedSimpArgs false
structure Hs_ (S:World→Prop) (w:World):Prop where
  out:S w
theorem ht_{w:World}: Hs_ (fun _=>True) w:=⟨trivial⟩
theorem e1_{w:World}{p:Addr}{v:Value}(h:w.cell? p=some v): Hs_ (fun w'=>w'.cell? p=some v) w:=⟨h⟩
theorem c1_{S:World→Prop}{w:World}{p:Addr}{v:Value}(h:w.cell? p=some v)(k:Hs_ S w): Hs_ (fun w'=>w'.cell? p=some v∧S w') w:=⟨h,k.out⟩
theorem e4_{w:World}{p0 p1 p2 p3:Addr}{v0 v1 v2 v3:Value}(h0:w.cell? p0=some v0)(h1:w.cell? p1=some v1)(h2:w.cell? p2=some v2)(h3:w.cell? p3=some v3): Hs_ (fun w'=>w'.cell? p0=some v0∧w'.cell? p1=some v1∧w'.cell? p2=some v2∧w'.cell? p3=some v3) w:=⟨h0,h1,h2,h3⟩
theorem c4_{S:World→Prop}{w:World}{p0 p1 p2 p3:Addr}{v0 v1 v2 v3:Value}(h0:w.cell? p0=some v0)(h1:w.cell? p1=some v1)(h2:w.cell? p2=some v2)(h3:w.cell? p3=some v3)(k:Hs_ S w): Hs_ (fun w'=>w'.cell? p0=some v0∧w'.cell? p1=some v1∧w'.cell? p2=some v2∧w'.cell? p3=some v3∧S w') w:=⟨h0,h1,h2,h3,k.out⟩
theorem eb_{w:World}{g:Nat}{t:TypeId}{v0 v1 v2 v3:Value}(h:w.heap[g]? = some (.cells #[v0,v1,v2,v3] t (0,0))): Hs_ (fun w'=>w'.cell? ⟨g,0,none⟩=some v0∧w'.cell? ⟨g,1,none⟩=some v1∧w'.cell? ⟨g,2,none⟩=some v2∧w'.cell? ⟨g,3,none⟩=some v3) w:=e4_ ((af h 0).trans rfl) ((af h 1).trans rfl) ((af h 2).trans rfl) ((af h 3).trans rfl)
theorem cb_{S:World→Prop}{w:World}{g:Nat}{t:TypeId}{v0 v1 v2 v3:Value}(h:w.heap[g]? = some (.cells #[v0,v1,v2,v3] t (0,0)))(k:Hs_ S w): Hs_ (fun w'=>w'.cell? ⟨g,0,none⟩=some v0∧w'.cell? ⟨g,1,none⟩=some v1∧w'.cell? ⟨g,2,none⟩=some v2∧w'.cell? ⟨g,3,none⟩=some v3∧S w') w:=c4_ ((af h 0).trans rfl) ((af h 1).trans rfl) ((af h 2).trans rfl) ((af h 3).trans rfl) k
theorem fN{P:Program}{ops:Array Oper}{Q:Exit→Act→World→Prop}{S:World→Prop}{id:Nat}{a:Act}{w:World}(n:Nat)(ds:List Nat)(hS:Hs_ S w.drew)(h:S w.drew→aZ P .any ops Q S ds n (Array.replicate n false) a w.drew)(hm:P.follows .mixedOrders=true:=by kernel_rfl)(hn:ops.size=n:=by rfl): (Code.region id ops true).wp P Q a w:=gl (Array.replicate n false) hm hn rfl hS.out h
theorem p_{P:Program}{md:Region.Mode}{ops:Array Oper}{Q:Exit→Act→World→Prop}{S:World→Prop}{ds:List Nat}{fuel:Nat}{l:Array Bool}{a a':Act}{w:World}{oi:Oper}{v:Value}(i N:Nat)
    (h:aZ P md ops Q S ds fuel (l.setIfInBounds i true) a' w) (hi:ops[i]? = some oi:=by rfl) (hN:oi.dst=some N:=by rfl) (hc:mv md ops l (l.setIfInBounds i true) i=true:=by exact fw HT_.out (by kernel_rfl))
    (hQ:∀ c a w,Q (.panic c) (a.put oi.dst v) w→Q (.panic c) a w:=by exact fun _ _ _ h=>h) (hy:Yields P ops oi v a:=by exact Or.inl ⟨by rfl,by intro w';go_simp;with_reducible rfl⟩)
    (ha:a.put (some N) v=a':=by simp only[Act.put,List.setIfInBounds_toArray,List.set_cons_zero,List.set_cons_succ,bu,bI];rfl):aZ P md ops Q S ds (fuel+1) l a w:=dE _ hi hN hc hQ hy ha h
theorem s_{P:Program}{md:Region.Mode}{ops:Array Oper}{Q:Exit→Act→World→Prop}{S:World→Prop}{ds:List Nat}{fuel:Nat}{l:Array Bool}{a a':Act}{w:World}{oi:Oper}(i N:Nat)
    (h:aZ P md ops Q S ds fuel (l.setIfInBounds i true) a' w) (hi:ops[i]? = some oi:=by rfl) (hN:oi.dst=some N:=by rfl) (hc:mv md ops l (l.setIfInBounds i true) i=true:=by exact fw HT_.out (by kernel_rfl))
    (hQ:∀ c a w,Q (.panic c) (a.put oi.dst undef) w→Q (.panic c) a w:=by exact fun _ _ _ h=>h) (hy:Yields P ops oi undef a:=by exact Or.inr ⟨by rfl,rfl⟩)
    (ha:a.put (some N) undef=a':=by simp only[Act.put,List.setIfInBounds_toArray,List.set_cons_zero,List.set_cons_succ,bu,bI];rfl):aZ P md ops Q S ds (fuel+1) l a w:=dE _ hi hN hc hQ hy ha h
theorem t_{P:Program}{md:Region.Mode}{ops:Array Oper}{Q:Exit→Act→World→Prop}{S:World→Prop}{ds:List Nat}{fuel:Nat}{l:Array Bool}{a a':Act}{w:World}{oi:Oper}{v:Value}(i N:Nat)
    (h:aZ P md ops Q S ds fuel (l.setIfInBounds i true) a' w) (hi:ops[i]? = some oi:=by rfl) (hN:oi.dst=some N:=by rfl) (hc:jl md ops ds l (l.setIfInBounds i true) i=true:=by exact iK HT_.out HW_.out (by kernel_rfl))
    (hQ:∀ c a w,Q (.panic c) (a.put oi.dst v) w→Q (.panic c) a w:=by exact fun _ _ _ h=>h) (hy:YieldsIf P ops S oi v a:=by exact Or.inl ⟨by rfl,by intro w' hs_;(repeat(refine And.elim (fun _ hs_=>?_) hs_));go_simp;with_reducible rfl⟩)
    (hS:S w:=by exact hHeld) (ha:a.put (some N) v=a':=by simp only[Act.put,List.setIfInBounds_toArray,List.set_cons_zero,List.set_cons_succ,bu,bI];rfl):aZ P md ops Q S ds (fuel+1) l a w:=take_ _ hi hN hc hQ hy hS ha h
theorem gt_{P:Program}{ops:Array Oper}{Q:Exit→Act→World→Prop}{o:Oper}{rest:List Oper}{a:Act}{W:World}(f:FuncId){as_:Array Operand}{ts:Array TypeId}(_ho:o.op = .call { callee:=.value (.func f),args:=as_,argTypes:=ts })(h:wpList P ops Q (o::rest) a W): wpList P ops Q (o::rest) a W:=h
theorem gs_{P:Program}{ops:Array Oper}{Q:Exit→Act→World→Prop}{rest:List Oper}{oi:Oper}{a:Act}{w:World}(N:Nat){f:FuncId}{fn:Func}{as_:Array Operand}{ts:Array TypeId}(hf:P.funcs[f]? = some fn)(args:Array Value)
    (h:Calls P f args w fun e w'=> ∃ v,e = .returned v∧wpList P ops Q rest (a.put (some N) v) w') (hd:oi.dst=some N:=by rfl) (hg:oi.guard=none:=by rfl) (hname:(fn.name == "runtime.NumGoroutine")=false:=by kernel_rfl) (hb:fn.body.isSome=true:=by rfl)
    (hop:oi.op = .call { callee:=.value (.func f),args:=as_,argTypes:=ts }:=by rfl) (hargs:as_.map a.eval=args:=by(try simp only[List.map_toArray,List.map_cons,List.map_nil]);first|done|rfl|(simp only[List.length_drop,List.length_take];rfl)):wpList P ops Q (oi::rest) a w:=lO (some N) hd hg hf hname hb args hop hargs h
theorem t0_(x:Int)(h:decide (0≤x)=true:=by first|(with_reducible assumption)|assumption): (0≤x)=True:=eq_true (of_decide_eq_true h)
theorem tl_(x y:Int)(h:decide (x<y)=true:=by first|(with_reducible assumption)|assumption): (x<y)=True:=eq_true (of_decide_eq_true h)
theorem ri_{w w':World}{E:Addr→Prop}{p0 p1 p2 p3:Addr→Addr}{v0 v1 v2:Value}{v3:Option Addr→Nat→Value}{L:Nat→Prop}{R:Option Addr→Prop}(HB:ab (Below w.heap.size w w'))
    (h:∃ ad A c,E ad∧w.cell? (p0 ad)=some v0∧w.cell? (p1 ad)=some v1∧w.cell? (p2 ad)=some v2∧w.cell? (p3 ad)=some (v3 A c)∧L c∧R A) :
    ∃ ad A c,E ad∧w.cell? (p0 ad)=some v0∧w.cell? (p1 ad)=some v1∧w.cell? (p2 ad)=some v2∧w.cell? (p3 ad)=some (v3 A c)∧w'.cell? (p0 ad)=some v0∧w'.cell? (p1 ad)=some v1∧w'.cell? (p2 ad)=some v2∧w'.cell? (p3 ad)=some (v3 A c)∧ab (R A)∧ab (L c):=by
  obtain⟨ad,A,c,e,h0,h1,h2,h3,hl,hr⟩:=h;obtain⟨k0,k1,k2,k3⟩:=sy HB.out h0 h1 h2 h3;exact⟨ad,A,c,e,h0,h1,h2,h3,k0,k1,k2,k3,⟨hr⟩,⟨hl⟩⟩
theorem rp_{w w':World}{E:Addr→Prop}{p0 p1 p2 p3:Addr→Addr}{v0 v1 v2 v3:Value}(HB:ab (Below w.heap.size w w'))
    (h:∃ ad,E ad∧w.cell? (p0 ad)=some v0∧w.cell? (p1 ad)=some v1∧w.cell? (p2 ad)=some v2∧w.cell? (p3 ad)=some v3) :
    ∃ ad,E ad∧w.cell? (p0 ad)=some v0∧w.cell? (p1 ad)=some v1∧w.cell? (p2 ad)=some v2∧w.cell? (p3 ad)=some v3∧w'.cell? (p0 ad)=some v0∧w'.cell? (p1 ad)=some v1∧w'.cell? (p2 ad)=some v2∧w'.cell? (p3 ad)=some v3:=by
  obtain⟨ad,e,h0,h1,h2,h3⟩:=h;obtain⟨k0,k1,k2,k3⟩:=sy HB.out h0 h1 h2 h3;exact⟨ad,e,h0,h1,h2,h3,k0,k1,k2,k3⟩
theorem cg_{W w1:World}{row:Option Nat}(hg:W.grownBy w1 row){a:Addr}{v:Value}(h:W.cell? a=some v)(hne:some a.block≠row): w1.cell? a=some v:=Go.Proofs.YtiegkjimpclmaaaGreatDoorW.PrintWords.cell_grown hg h hne
theorem ob_{α β:Type}{x:Option α}{f:α→Option β}{b:β}(h:x.bind f=some b): ∃ a,ab (x=some a)∧f a=some b:=by
  obtain⟨a,h1,h2⟩:=Option.bind_eq_some_iff.mp h;exact⟨a,⟨h1⟩,h2⟩
theorem ff_: ¬ (false=true):=by decide
theorem kS_{α:Type}{d:Kd α}{e:Nat}{w w':World}{base:Nat}{ok:Nat→Prop}{v:Value}{xs:List α}(hx:Kd.S d e w base ok v xs)(h:Kd.S d e w base ok v xs→Kd.S d e w' base ok v xs:=by intro hx_;(with_reducible repeat(first|apply Kd.S_alloc|apply Kd.S_drewN|apply Kd.S_drew));exact hx_): Kd.S d e w' base ok v xs:=h hx
theorem kp_{p:Prop}(h:p:=by repeat(first|(with_reducible first|exact ab.out (by assumption)|apply cW.alloc|apply cW.drewN|apply cW.drew|refine cW.setCell ?_ (.inr (ab.out (by assumption))) _)|exact ab.out (by assumption))): p:=h
theorem jl_{p q:Prop}(x:ab p)(h:p→q:=by intro this;first|omega|exact Nat.le_refl _): ab q:=⟨h x.out⟩
theorem jm_{p p2 q:Prop}(x:ab p)(y:ab p2)(h:p→p2→q:=by intro this this;omega): ab q:=⟨h x.out y.out⟩
theorem jn_{p p2 p3 q:Prop}(x:ab p)(y:ab p2)(z:ab p3)(h:p→p2→p3→q:=by intro this this this;omega): ab q:=⟨h x.out y.out z.out⟩
theorem fX{α:Type}{d:Kd α}{e:Nat}{w:World}{base:Nat}{ok:Nat→Prop}{v:Value}{xs:List α}(g:Nat)(h:d.R e w base ok v xs)(hk:∀ k,ok k→k≠g)(a b c d':Value): d.R e ((((w.setCell ⟨g,0,none⟩ a).setCell ⟨g,1,none⟩ b).setCell ⟨g,2,none⟩ c).setCell ⟨g,3,none⟩ d') base ok v xs:=
  Kd.R_far (p:=⟨g,3,none⟩) (Kd.R_far (p:=⟨g,2,none⟩) (Kd.R_far (p:=⟨g,1,none⟩) (Kd.R_far (p:=⟨g,0,none⟩) h hk a) hk b) hk c) hk d'
theorem rO{α:Type}{d:Kd α}{e:Nat}{w:World}{base:Nat}{ok:Nat→Prop}{v:Value}{xs:List α}(g:Nat)(h:Kd.S d e w base ok v xs)(hk:∀ k,ok k→k≠g)(a b c d':Value): Kd.S d e ((((w.setCell ⟨g,0,none⟩ a).setCell ⟨g,1,none⟩ b).setCell ⟨g,2,none⟩ c).setCell ⟨g,3,none⟩ d') base ok v xs:=
  Kd.S_far (p:=⟨g,3,none⟩) (Kd.S_far (p:=⟨g,2,none⟩) (Kd.S_far (p:=⟨g,1,none⟩) (Kd.S_far (p:=⟨g,0,none⟩) h hk a) hk b) hk c) hk d'
theorem pB{R:ByteArray→List Value→Prop}(hR:∀ x,R x [.string x]): ∀ (xs acc:List ByteArray) (cs:List Value),br R 1 acc cs→br R 1 (acc++xs) (cs++xs.map Value.string)
  | [],acc,cs,h=>by simpa using h
  | x::xs,acc,cs,h=>by
    have:=pB hR xs (acc ++ [x]) (cs ++ [.string x]) (h.snoc (hR x) rfl)
    simpa using this
theorem ls_{P:Program}{ops:Array Oper}{Q:Exit→Act→World→Prop}{rest:List Oper}{o:Oper}{a:Act}{W:World}(N:Tmp)(e:Nat)(xs:List ByteArray)
    (h:∀ v1 w1,Kd.string.R e w1 W.heap.size (fun _=>True) v1 xs→Below W.heap.size W w1→W.grownBy w1 none→(∃ b,v1.ownBlock=some b∧W.heap.size≤b)→wpList P ops Q rest (a.put o.dst v1) w1)
    (hd:o.dst=some N:=by rfl) (hg:o.guard=none:=by rfl) (hm:xs.length≤9223372036854775807:=by simp)
    (hr:(execOp a.eval o).run P W = .ok (.value (.slice (some ⟨W.heap.size,0,none⟩) xs.length xs.length)) (W.alloc (.cells (xs.map Value.string).toArray e)):=by first|(go_simp;done)|(go_simp;rfl)):wpList P ops Q (o::rest) a W:=
  Kd.R_lit Kd.string _ e hg hd (ok:=fun _=>True) (okp:=fun _=>True) hr (show br (Kd.string.M W W.heap.size (fun _=>True)) 1 xs (xs.map Value.string)from pB (R:=Kd.string.M W W.heap.size (fun _=>True)) (fun x=>rfl) xs [] [] (br.none _ _)) (fun _ hk=>hk) trivial (Below.refl _ _) (Nat.le_refl _) hm h
theorem by_{α β:Type}{x y:α}{f:α→Option β}{r:Option β}(hy:y=x)(H:(some x).bind f=r): f y=r:=by rw[hy];exact H
end Go.Proofs.YtiegkjimpclmaaaGreatDoor.P
