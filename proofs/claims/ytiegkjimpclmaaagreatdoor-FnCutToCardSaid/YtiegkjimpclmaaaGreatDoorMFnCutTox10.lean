/- FnCutTo: part 11 of 17 of my texts for this claim, joined; the theorem stands in the last. Conditions: none beyond the statement's. -/
import Derived.Test.YtiegkjimpclmaaaGreatDoorMFnCutTox9
open Go.RowKit Go.Proofs.YtiegkjimpclmaaaGreatDoorW.PrintWords Go.Proofs.YtiegkjimpclmaaaGreatDoorW.PrintLast Go.Proofs.YtiegkjimpclmaaaGreatDoorW.PrintMore
set_option linter.unusedVariables false
set_option linter.unusedSimpArgs false
set_option maxHeartbeats 8000000
set_option maxRecDepth 100000
namespace Go.Proofs.YtiegkjimpclmaaaGreatDoor.Pure
open Go.Proofs.YtiegkjimpclmaaaGreatDoor.P
set_option linter.unusedSectionVars false
theorem tail_cons(y:List UInt8)(r:List (List UInt8)): Lib.joinTail [46] (y::r)=46::(y++Lib.joinTail [46] r):=by simp[Lib.joinTail]
theorem lr(L:List ByteArray)(hL:∀ x∈L,x.size≤1000)(hn:L.length≤1000): ∀ (m i:Nat) (acc:ByteArray),i+m=L.length→0<i→acc.size+m*1100<1099511627776 →
 Ev (fun k=>bi.l0 k acc L (L.length:Int) (i:Int)) (mkB (acc.data.toList++Lib.joinTail [46] ((L.drop i).map (·.data.toList))))
 | 0,i,acc,him,hi,ha=>by
  refine Ev.step (f:=fun _=>some acc) (fun k=>?_) ?_
  · show bi.l0 (k + 1) acc L (L.length : Int) (i : Int) = _
    conv=>lhs;unfold bi.l0
    rw[if_neg (by omega)]
  · rw [List.drop_of_length_le (by omega)]
    simp only[List.map_nil,show Lib.joinTail [46] ([]:List (List UInt8))=[]from rfl,List.append_nil,fJ];exact Ev.now _
 | m+1,i,acc,him,hi,ha=>by
  have hil:i<L.length:=by omega
  have hrd:bn ByteArray.empty L (i:Int)=L[i]:=by
   unfold bn;rw[Int.toNat_natCast,List.getD_eq_getElem?_getD,List.getElem?_eq_getElem hil];rfl
  have hsz:=hL _ (List.getElem_mem hil);have h46:(⟨#[46]⟩:ByteArray).size=1:=rfl;have ih:=lr L hL hn m (i+1) ((acc++(⟨#[46]⟩:ByteArray))++L[i]) (by omega) (by omega) (by rw[ByteArray.size_append,ByteArray.size_append,h46];omega)
  have e:acc.data.toList++Lib.joinTail [46] ((L.drop i).map (·.data.toList))=((acc++(⟨#[46]⟩:ByteArray))++L[i]).data.toList++Lib.joinTail [46] ((L.drop (i+1)).map (·.data.toList)):=by
   rw[List.drop_eq_getElem_cons hil,List.map_cons,tail_cons];simp[ByteArray.data_append]
  rw[e];refine Ev.step (fun k=>?_) ih;show bi.l0 (k+1) acc L (L.length:Int) (i:Int)=_
  conv=>lhs;unfold bi.l0
  rw[if_pos (by omega),if_pos (by omega),if_pos (by omega),if_pos (by omega),hrd,if_pos (by omega),if_pos (by rw[ByteArray.size_append,h46];omega),d_ (by omega)]
theorem nP(L:List ByteArray)(hL:∀ x∈L,x.size≤1000)(hn:L.length≤1000): Ev (fun k=>bi.f k L) (mkB (dF L)):=by
 cases L with
 | nil=>
  refine Ev.of (fun k=>bi.m _ _) (k:=1) ?_
  unfold bi.f
  conv=>lhs;unfold bi.l0
  rw[if_neg (by simp)];rfl
 | cons x r=>
  have hx:=hL x List.mem_cons_self
  have h0:(⟨#[]⟩:ByteArray)++x=x:=by apply fK;simp[ByteArray.data_append]
  have:=lr (x::r) hL hn r.length 1 x (by simp;omega) (by omega) (by simp at hn;omega)
  have e:dF (x::r)=x.data.toList++Lib.joinTail [46] (((x::r).drop 1).map (·.data.toList)):=by
   unfold dF;rw[List.map_cons,Lib.join_cons];rfl
  rw[e];refine Ev.congr (fun k=>rfl) (Ev.step (fun k=>?_) this);show bi.l0 (k+1) (⟨#[]⟩:ByteArray) (x::r) ((x::r).length:Int) 0=_
  conv=>lhs;unfold bi.l0
  have hrd:bn ByteArray.empty (x::r) 0=x:=rfl;have hz:(⟨#[]⟩:ByteArray).size=0:=rfl;rw[if_pos (by simp only[List.length_cons];omega),if_pos (by omega),if_pos (by simp only[List.length_cons];omega),if_neg (by omega),hrd,if_pos (by rw[hz];omega),h0,show wrap64 ((0:Int)+1)=((1:Nat):Int) by unfold wrap64;omega]
def smB(x:ByteArray): ByteArray:=mkB (x.data.toList.map eq)
def rD(L:List ByteArray): Prop:=∀ x∈L,1≤x.size∧x.size≤20∧∀ y∈x.data.toList,y≠46
theorem nR(b:UInt8): eq b=46↔b=46:=by
 have:∀ n:Fin 256,eq (UInt8.ofFin n)=46↔UInt8.ofFin n=46:=by decide +kernel
 exact this b.toFin
theorem lp(L:List ByteArray): dF (L.map smB)=(dF L).map eq:=by
 have ht:∀ r:List ByteArray,Lib.joinTail [46] ((r.map smB).map (·.data.toList))=(Lib.joinTail [46] (r.map (·.data.toList))).map eq:=by
  intro r
  induction r with
  | nil=>rfl
  | cons y r ih=>
   rw[List.map_cons,List.map_cons,List.map_cons,tail_cons,tail_cons,ih];simp[smB,cn,(nR 46).2 rfl]
 unfold dF
 cases L with
 | nil=>rfl
 | cons x r=>
  rw[List.map_cons,List.map_cons,List.map_cons,Lib.join_cons,Lib.join_cons,ht,List.map_append];simp[smB,cn]
theorem kF(L:List (List UInt8))(hne:L≠[])(h:∀ x∈L,∀ y∈x,y≠46): bC 46 (Lib.join L [46])=L:=by
 induction L with
 | nil=>exact absurd rfl hne
 | cons x r ih=>
  rw[Lib.join_cons]
  cases r with
  | nil=>
   rw[show Lib.joinTail [46] ([]:List (List UInt8))=[]from rfl,List.append_nil];exact el 46 x (h x List.mem_cons_self)
  | cons y r=>
   rw[tail_cons,dM 46 x _ (h x List.mem_cons_self),← Lib.join_cons,ih (by simp) fun z hz=>h z (List.mem_cons_of_mem _ hz)]
theorem lx(L:List ByteArray)(hI:rD L): gD (mkB (dF L))=gi (L.map smB):=by
 unfold gD gi;rw[cn,cF,lp]
 have key:cO ((dF L).map eq)=true→(dF L).length≤60∧(decide ((L.map smB).length≤8)&&(L.map smB).all (fun x=>bH x.data.toList))=true:=by
  intro hg;have h1:=ec hg;rw[List.length_map]at h1;refine⟨h1,?_⟩;unfold cO at hg
  have hl:bG ((dF L).map eq)=(L.map smB).map (·.data.toList):=by
   cases L with
   | nil=>rfl
   | cons x r=>
    have hx:=hI x List.mem_cons_self
    have hne:(dF (x::r)).map eq≠[]:=by
     unfold dF;rw[List.map_cons,Lib.join_cons];intro e;have e2:=congrArg List.length e;rw[List.length_map,List.length_append,← aU,List.length_nil]at e2;have:=hx.1;omega
    unfold bG;rw[if_neg hne,← lp];unfold dF
    refine kF _ (by simp) ?_
    intro z hz y hy;obtain⟨q,hq,rfl⟩:=List.mem_map.1 hz;obtain⟨q2,hq2,rfl⟩:=List.mem_map.1 hq;simp only[smB,cn]at hy;obtain⟨b,hb,rfl⟩:=List.mem_map.1 hy;rw[Ne,nR];exact(hI q2 hq2).2.2 b hb
  rw[hl]at hg;simp only[Bool.and_eq_true,List.length_map,List.all_map]at hg ⊢;exact hg.2
 by_cases hg:cO ((dF L).map eq)=true
 · obtain ⟨h1, h2⟩ := key hg
   rw[if_pos h1,if_pos hg,if_pos h2]
 · rw [if_neg hg]
   split<;>split<;>rfl
section
variable (s:ByteArray) (hs:s.size≤2000)
include hs
theorem lD: ∀ (n a:Nat) (L:List ByteArray) (p:List Int) (le:Nat) (e:Int),le*10+(9-L.length)≤n→L.length≤9→p.length≤L.length→(∃ x∈L,bH x.data.toList=false) →
 ∃ r,Ev (fun k=>ac.l0 k s (a:Int) L p (le:Int) e) r∧r.2.2.2=false
 | n,a,L,p,le,e,hn,hL,hp,hx=>by
  by_cases ho:s.size≤a∨8<L.length
  ·exact⟨eX,Ev.of (fun k=>(ac.mono_l k).1 _ _ _ _ _ _) (iz s hs 0 a L p le e ho),rfl⟩
  · have h1 : a < s.size := by omega
    have h2:L.length≤8:=by omega
    by_cases v0:ba s a=0
    · refine ⟨_, Ev.of (fun k => (ac.mono_l k).1 _ _ _ _ _ _) (iO s hs 0 a L p le e h1 h2 v0), ?_⟩
      unfold gi
      have hall:L.all (fun x=>bH x.data.toList)=false:=by
       obtain⟨x,hx1,hx2⟩:=hx;rw[List.all_eq_false];exact⟨x,hx1,by rw[hx2];simp⟩
      rw[hall,Bool.and_false,if_neg (by simp)]
    · by_cases v1 : 192 ≤ ba s a
      · by_cases h3 : a + 1 < s.size
        · by_cases hle : ((eb s a : Nat) : Int) ≥ (le : Int)
          ·exact⟨eX,Ev.of (fun k=>(ac.mono_l k).1 _ _ _ _ _ _) ((fh s hs 0 a L p le e h1 h2 v1 h3).trans (if_pos hle)),rfl⟩
          · obtain ⟨r, g1, g2⟩ := lD (n - 10) (eb s a) L p (eb s a) (dL e (a + 2)) (by omega) hL hp hx
            exact⟨r,Ev.step (fun k=>rfl) (Ev.step (g:=fun k=>ac.l0 (k+1) s (a:Int) L p (le:Int) e) (fun k=>(fh s hs k a L p le e h1 h2 v1 h3).trans (if_neg hle)) g1),g2⟩
        ·exact⟨eX,Ev.of (fun k=>(ac.mono_l k).1 _ _ _ _ _ _) (fB s hs 0 a L p le e h1 h2 v1 (by omega)),rfl⟩
      · by_cases h3 : 64 ≤ ba s a ∨ s.size < a + 1 + ba s a
        ·exact⟨eX,Ev.of (fun k=>(ac.mono_l k).1 _ _ _ _ _ _) (fF s hs 0 a L p le e h1 h2 (by omega) (by omega) h3),rfl⟩
        · obtain⟨r,g1,g2⟩:=lD (n-1) (a+1+ba s a) (L ++ [mkB (((s.data.toList.drop (a+1)).take (ba s a)).map eq)]) (plc e p a) le e (by simp;omega) (by simp;omega) (by unfold plc;split<;>simp<;>omega) (by
           obtain⟨x,hx1,hx2⟩:=hx
           exact⟨x,List.mem_append_left _ hx1,hx2⟩)
          exact⟨r,Ev.step (fun k=>rfl) (Ev.step (fun k=>rfl) (Ev.step (g:=fun k=>ac.l0 (k+2) s (a:Int) L p (le:Int) e) (fun k=>gH s hs k a L p le e h1 h2 (by omega) (by omega) (by omega) (by omega)) g1)),g2⟩
 termination_by n=>n
 decreasing_by all_goals omega
theorem rP: ∀ (n a:Nat) (L:List ByteArray) (p:List Int) (le:Nat) (e:Int) (a0:Nat),le*10+(9-L.length)≤n→L.length≤9→p.length≤L.length→rD L→(e<0→a0≤a)→(0≤e→(a0:Int)<e∧e≤(s.size:Int)) →
 ∃ r r',Ev (fun k=>ah.l0 k s (a:Int) L p (le:Int) e) r∧Ev (fun k=>ac.l0 k s (a:Int) (L.map smB) p (le:Int) e) r'∧r.2.2.2=r'.2.2.2 ∧
  (r.2.2.2=true→r.1=r'.1∧r.2.1=r'.2.2.1∧r.2.2.1=r'.2.1∧(a0:Int)<r.2.1∧r.2.1≤(s.size:Int)∧r.2.2.1.length≤9)
 | n,a,L,p,le,e,a0,hn,hL,hp,hI,he1,he2=>by
  have hLs:(L.map smB).length=L.length:=List.length_map ..
  by_cases ho:s.size≤a∨8<L.length
  ·exact⟨fd,eX,Ev.of (fun k=>(ah.mono_l k).1 _ _ _ _ _ _) (mq s hs 0 a L p le e ho),Ev.of (fun k=>(ac.mono_l k).1 _ _ _ _ _ _) (iz s hs 0 a _ p le e (by omega)),rfl,fun h=>by cases h⟩
  · have h1 : a < s.size := by omega
    have h2:L.length≤8:=by omega
    by_cases v0:ba s a=0
    · have hi := iO s hs 0 a (L.map smB) p le e h1 (by omega) v0
      refine⟨((gD (mkB (dF L))).1,dL e (a+1),p,(gD (mkB (dF L))).2),_,?_,Ev.of (fun k=>(ac.mono_l k).1 _ _ _ _ _ _) hi,by rw[lx L hI],fun _=>⟨by rw[lx L hI],rfl,rfl,?_,?_,by show p.length≤9;omega⟩⟩
      · refine Ev.step (f := fun k => (bi.f k L).bind fun t => (dw.f t).bind fun g0 => some (g0.1, dL e (a + 1), p, g0.2)) (fun k => ?_) (Ev.bind (nP L (fun x hx => by have := (hI x hx).2.1; omega) (by omega)) (Ev.congr (f := fun _ => some ((gD (mkB (dF L))).1, dL e (a + 1), p, (gD (mkB (dF L))).2)) (fun k => by unfold dw.f; rfl) (Ev.now _)))
        show ah.l0 (k+1) s (a:Int) L p (le:Int) e=_
        conv=>lhs;unfold ah.l0
        rw[if_pos (by omega),if_neg (by omega),if_pos (by omega),if_pos (by omega),dV,wN _ (by have:=ey s a;omega),v0,if_neg (by decide),if_pos (by rfl),d_ (by omega)];unfold dL
        by_cases he:e<0
        ·rw[if_pos he,if_pos he]
        ·rw[if_neg he,if_neg he]
      · show (a0 : Int) < dL e (a + 1)
        unfold dL
        split<;>omega
      · show dL e (a + 1) ≤ (s.size : Int)
        unfold dL
        split<;>omega
    · by_cases v1 : 192 ≤ ba s a
      · by_cases h3 : a + 1 < s.size
        · by_cases hle : ((eb s a : Nat) : Int) ≥ (le : Int)
          ·exact⟨fd,eX,Ev.of (fun k=>(ah.mono_l k).1 _ _ _ _ _ _) ((iH s hs 0 a L p le e h1 h2 v1 h3).trans (if_pos hle)),Ev.of (fun k=>(ac.mono_l k).1 _ _ _ _ _ _) ((fh s hs 0 a _ p le e h1 (by omega) v1 h3).trans (if_pos hle)),rfl,fun h=>by cases h⟩
          · obtain ⟨r, r', g1, g2, g3⟩ := rP (n - 10) (eb s a) L p (eb s a) (dL e (a + 2)) a0 (by omega) hL hp hI (by unfold dL; split <;> omega) (by unfold dL; split <;> omega)
            exact⟨r,r',Ev.step (fun k=>(iH s hs k a L p le e h1 h2 v1 h3).trans (if_neg hle)) g1,Ev.step (fun k=>rfl) (Ev.step (g:=fun k=>ac.l0 (k+1) s (a:Int) (L.map smB) p (le:Int) e) (fun k=>(fh s hs k a _ p le e h1 (by omega) v1 h3).trans (if_neg hle)) g2),g3⟩
        ·exact⟨fd,eX,Ev.of (fun k=>(ah.mono_l k).1 _ _ _ _ _ _) (iJ s hs 0 a L p le e h1 h2 v1 (by omega)),Ev.of (fun k=>(ac.mono_l k).1 _ _ _ _ _ _) (fB s hs 0 a _ p le e h1 (by omega) v1 (by omega)),rfl,fun h=>by cases h⟩
      · have hlb : ∀ (g : s.size ≥ a + 1 + ba s a), (ew s a).length = ba s a := fun g => by unfold ew; rw [List.length_take, List.length_drop, ← aU]; omega
        by_cases h3:64≤ba s a∨s.size<a+1+ba s a
        ·exact⟨fd,eX,Ev.of (fun k=>(ah.mono_l k).1 _ _ _ _ _ _) (fD s hs 0 a L p le e h1 h2 (by omega) (by omega) (by omega)),Ev.of (fun k=>(ac.mono_l k).1 _ _ _ _ _ _) (fF s hs 0 a _ p le e h1 (by omega) (by omega) (by omega) h3),rfl,fun h=>by cases h⟩
        · have hlen := hlb (by omega)
          have himpl:∀ r,Ev (fun k=>ac.l0 k s ((a+1+ba s a:Nat):Int) (L.map smB ++ [mkB ((ew s a).map eq)]) (plc e p a) (le:Int) e) r→Ev (fun k=>ac.l0 k s (a:Int) (L.map smB) p (le:Int) e) r:=fun r g2=>
           Ev.step (fun k=>rfl) (Ev.step (fun k=>rfl) (Ev.step (g:=fun k=>ac.l0 (k+2) s (a:Int) (L.map smB) p (le:Int) e) (fun k=>gH s hs k a _ p le e h1 (by omega) (by omega) (by omega) (by omega) (by omega)) g2))
          have hpl:(plc e p a).length≤L.length+1:=by
           unfold plc
           split
           ·rw[List.length_append,List.length_singleton];omega
           ·omega
          have doom:bH ((ew s a).map eq)=false→∃ r,Ev (fun k=>ac.l0 k s (a:Int) (L.map smB) p (le:Int) e) r∧r.2.2.2=false:=by
           intro hb;obtain⟨r,g1,g2⟩:=lD s hs (n-1) (a+1+ba s a) (L.map smB ++ [mkB ((ew s a).map eq)]) (plc e p a) le e (by simp;omega) (by simp;omega) (by simp;omega) ⟨_,List.mem_append_right _ List.mem_cons_self,by rw[cn];exact hb⟩;exact⟨r,himpl r g1,g2⟩
          by_cases h20:20<ba s a
          · obtain⟨r',g1,g2⟩:=doom (by
             rw[Bool.eq_false_iff];intro e1;have:=fM e1;rw[List.length_map]at this
             omega)
            exact⟨fd,r',Ev.of (fun k=>(ah.mono_l k).1 _ _ _ _ _ _) (fD s hs 0 a L p le e h1 h2 (by omega) (by omega) (.inl h20)),g1,by rw[g2];rfl,fun h=>by cases h⟩
          · rcases mz s hs a L p le e h1 h2 (by omega) (by omega) (by omega) (by omega) with ⟨f1, y, hy, rfl⟩ | ⟨f1, f2⟩
            · obtain⟨r',g1,g2⟩:=doom (by
               rw[Bool.eq_false_iff];intro e1;unfold bH at e1;simp only[Bool.or_eq_true,Bool.and_eq_true,beq_iff_eq,List.all_eq_true]at e1;have hm:(46:UInt8)∈(ew s a).map eq:=List.mem_map.2 ⟨46,hy,(nR 46).2 rfl⟩
               rcases e1 with e1|e1
               · rw [e1] at hm
                 simp at hm
               ·exact absurd (e1.2 46 hm) (by decide))
              exact⟨fd,r',f1,g1,by rw[g2];rfl,fun h=>by cases h⟩
            · obtain⟨r,r',g1,g2,g3⟩:=rP (n-1) (a+1+ba s a) (L ++ [mkB (ew s a)]) (plc e p a) le e a0 (by simp;omega) (by simp;omega) (by simp;omega) (by
               intro x hx
               rcases List.mem_append.1 hx with hx|hx
               ·exact hI x hx
               · obtain rfl := List.mem_singleton.1 hx
                 rw[cF,cn]
                 exact⟨by omega,by omega,f1⟩) (by omega) he2
              refine⟨r,r',f2 r g1,himpl r' ?_,g3⟩;rw[List.map_append]at g2
              have e1:[mkB (ew s a)].map smB=[mkB ((ew s a).map eq)]:=by simp[smB,cn]
              rw[e1]at g2;exact g2
 termination_by n=>n
 decreasing_by all_goals omega
theorem oK(a:Nat)(ha:a≤s.size): ∃ r r',Ev (fun k=>ah.f k s (a:Int)) r∧Ev (fun k=>ac.f k s (a:Int)) r'∧r.2.2.2=r'.2.2.2 ∧
 (r.2.2.2=true→r.1=r'.1∧r.2.1=r'.2.2.1∧r.2.2.1=r'.2.1∧(a:Int)<r.2.1∧r.2.1≤(s.size:Int)∧r.2.2.1.length≤9):=
 rP s hs (a*10+9) a [] [] a (-1) a (by simp) (by simp) (by simp) (fun x hx=>by cases hx) (fun _=>Nat.le_refl _) (fun h=>by omega)
end
end Go.Proofs.YtiegkjimpclmaaaGreatDoor.Pure
namespace Go.Proofs.YtiegkjimpclmaaaGreatDoor.Pure
open Go.Proofs.YtiegkjimpclmaaaGreatDoor.P
theorem nI: ∀ (k i:Nat) (parts:List ByteArray) (out x:ByteArray),ap.l0 k parts out (i:Int)=some (x,true)→(∀ y∈parts,y.size≤1048576)→parts.length<1099511627776→(i<parts.length→parts.length=4)∧∀ j (h:j<parts.length),i≤j→parts[j].size≤10
 | 0,i,parts,out,x,h,hs,hl=>by simp[ap.l0]at h
 | k+1,i,parts,out,x,h,hs,hl=>by
  unfold ap.l0 at h
  by_cases c1:(i:Int)<(parts.length:Int)
  · have hi : i < parts.length := by omega
    have hsz:=hs _ (List.getElem_mem hi);obtain⟨v,hn1,hn2⟩:=eW parts[i] 255 (by omega) (by omega) (by omega);rw[if_pos c1,if_pos (by omega),lX parts i hi,hn1,Option.bind_some]at h
    by_cases hb:(fk parts[i].data.toList&&decide ((eE parts[i].data.toList:Int)≤255))=true
    · rw [if_pos hb] at h
      by_cases h4:(parts.length:Int)=4
      · rw [if_pos h4] at h
        obtain⟨t,ht,h⟩:=Option.bind_eq_some_iff.mp h
        by_cases ho:out.size+t.size≤9223372036854775807
        · rw [if_pos ho, d_ (by omega)] at h
          have ih:=nI k (i+1) parts _ x h hs hl;refine⟨fun _=>by omega,fun j hj hij=>?_⟩
          by_cases e:j=i
          · subst e
            rw[Bool.and_eq_true]at hb;have hc:=hb.1;unfold fk at hc;simp only[Bool.and_eq_true,decide_eq_true_eq]at hc;rw[aU];exact hc.1.1.2
          ·exact ih.2 j hj (by omega)
        ·rw[if_neg ho]at h;cases h
      · rw [if_neg h4] at h
        cases (Prod.mk.inj (Option.some.inj h)).2
    · rw [if_neg hb] at h
      cases (Prod.mk.inj (Option.some.inj h)).2
  ·exact⟨fun h2=>absurd h2 (by omega),fun j hj hij=>absurd hj (by omega)⟩
theorem pN: ∀ l:List (List UInt8),(∀ p∈l,p.length≤10)→(l.map fun p=>1+p.length).sum≤11*l.length
 | [],_=>Nat.le_refl _
 | x::r,h=>by
  have ih:=pN r fun p hp=>h p (List.mem_cons_of_mem _ hp)
  have hx:=h x List.mem_cons_self;rw[List.map_cons,List.sum_cons,List.length_cons];omega
theorem nY{l:List UInt8}{m:Int}(h:(fk l&&decide ((eE l:Int)≤m))=true): l.length≤10:=by
 rw[Bool.and_eq_true]at h;have hc:=h.1;unfold fk at hc;simp only[Bool.and_eq_true,decide_eq_true_eq]at hc;exact hc.1.1.2
theorem oo{s q1 q2:ByteArray}{q3:Bool}(hs:s.size≤1048576)(h:cy.f s (⟨#[32]⟩:ByteArray)=some (q1,q2,q3)): q1.size+q2.size≤s.size∧s.size≤q1.size+q2.size+1:=by
 unfold cy.f cX.f aV.f at h;rw[if_pos (show(⟨#[32]⟩:ByteArray).size=1 from rfl)]at h;simp only[Option.bind_some]at h;rw[show List.headD (⟨#[32]⟩:ByteArray).data.toList 0=32 from rfl,show(⟨#[32]⟩:ByteArray).size=1 from rfl]at h
 rcases eK 32 s.data.toList with⟨h1,_⟩|⟨p,r,h1,_,h3⟩
 · rw [h1, if_neg (by omega)] at h
   simp only[Option.bind_some,Option.some.injEq,Prod.mk.injEq]at h;obtain⟨rfl,rfl,_⟩:=h;exact⟨Nat.le_refl _,by show s.size≤s.size+0+1;omega⟩
 · have hl : p.length + (r.length + 1) = s.size := by rw [aU, h1]; simp
   rw[h3,show(((1:Nat):Int))=1 from rfl,d_ (by omega),if_pos (by omega),if_pos (by omega),if_pos (by omega),if_pos (by omega),if_pos (by omega),Int.toNat_natCast,Int.toNat_natCast]at h;simp only[Option.bind_some,Option.some.injEq,Prod.mk.injEq]at h;obtain⟨rfl,rfl,_⟩:=h;rw[ByteArray.size_extract,ByteArray.size_extract];omega
theorem nh{k:Nat}{kind:Int}{s x:ByteArray}(hs:s.size≤1048576)(h:ap.f k kind s=some (x,true)): s.size≤100:=by
 unfold ap.f at h
 by_cases c1:kind=1
 · rw [if_pos c1] at h
   have hsp:cM.f s (⟨#[46]⟩:ByteArray)=some ((bC 46 s.data.toList).map mkB):=by
    unfold cM.f;rw[if_pos (show(⟨#[46]⟩:ByteArray).size=1 from rfl),if_pos (by omega)];rfl
   rw[hsp,Option.bind_some]at h;have hne:=eL 46 s.data.toList;have hpl:0<(bC 46 s.data.toList).length:=List.length_pos_iff.2 hne
   have hlen:(bC 46 s.data.toList).length≤s.size+1:=by rw[aU];exact eU _ _
   have hg:=nI k 0 _ _ _ h (by
    intro y hy;obtain⟨q,hq,rfl⟩:=List.mem_map.1 hy;have:=eY 46 _ q hq;rw[← aU]at this;rw[cF]
    omega) (by rw[List.length_map];omega)
   have h4:=hg.1 (by rw[List.length_map];exact hpl);rw[List.length_map]at h4
   have hsum:=pN (bC 46 s.data.toList) (by
    intro p hp;obtain⟨j,hj,rfl⟩:=List.mem_iff_getElem.1 hp;have:=hg.2 j (by rw[List.length_map];exact hj) (Nat.zero_le _);rw[List.getElem_map,cF]at this
    exact this)
   rw[iY,h4,← aU]at hsum;omega
 · rw [if_neg c1] at h
   by_cases c2:kind=2∨kind=5
   · rw [if_pos c2] at h
     unfold gR at h;rw[fb,Option.bind_some]at h
     by_cases ht:fI s.data.toList=true
     · have := ec (gh ht)
       rw[← aU]at this;omega
     · rw [if_neg ht] at h
       cases (Prod.mk.inj (Option.some.inj h)).2
   · rw [if_neg c2] at h
     by_cases c6:kind=6
     · rw [if_pos c6] at h
       unfold fR at h;obtain⟨v,hn1,_⟩:=eW s 4294967295 (by omega) (by omega) (by omega);rw[hn1,Option.bind_some]at h
       by_cases hb:(fk s.data.toList&&decide ((eE s.data.toList:Int)≤4294967295))=true
       · have := nY hb
         rw[← aU]at this;omega
       · rw [if_neg hb] at h
         cases (Prod.mk.inj (Option.some.inj h)).2
     · rw [if_neg c6] at h
       by_cases g0:kind=15
       · rw [if_pos g0] at h
         unfold gz at h;obtain⟨⟨q1,q2,q3⟩,hc,h⟩:=Option.bind_eq_some_iff.mp h;have hcut:q1.size+q2.size≤s.size∧s.size≤q1.size+q2.size+1:=oo hs hc;obtain⟨v,hn1,_⟩:=eW q1 65535 (by omega) (by omega) (by omega);rw[hn1,Option.bind_some]at h
         by_cases hb:(fk q1.data.toList&&decide ((eE q1.data.toList:Int)≤65535))=true
         · rw [if_pos hb, fb, Option.bind_some] at h
           by_cases ht:fI q2.data.toList=true
           · have h1 := ec (gh ht)
             have h2:=nY hb;rw[← aU]at h1 h2;omega
           · rw [if_neg ht] at h
             cases (Prod.mk.inj (Option.some.inj h)).2
         · rw [if_neg hb] at h
           cases (Prod.mk.inj (Option.some.inj h)).2
       · rw [if_neg g0] at h
         by_cases g1:kind=16
         · rw [if_pos g1] at h
           unfold fA at h
           by_cases h30:(s.size:Int)>30
           · rw [if_pos h30] at h
             cases (Prod.mk.inj (Option.some.inj h)).2
           ·omega
         · rw [if_neg g1] at h
           cases (Prod.mk.inj (Option.some.inj h)).2
theorem ol(kind:Int)(s:ByteArray)(hs:s.size≤1048576): ∃ q,Ev (fun k=>ag.f k kind s) q∧Ev (fun k=>ap.f k kind s) (if q.2=true then(q.1,true)else dT)∧(q.2=true→s.size≤100):=by
 obtain⟨r,⟨K,h1⟩,h2⟩:=oy kind s hs;have h1:iF K kind s=some r:=h1 K (Nat.le_refl _);unfold iF at h1;obtain⟨q,hq,h1⟩:=Option.bind_eq_some_iff.mp h1;have hQ:Ev (fun k=>ag.f k kind s) q:=Ev.of (fun k=>ag.m _ _ _) (k:=K) hq
 have er:(if q.2=true then(q.1,true)else dT)=r:=by
  by_cases hq2:q.2=true
  · rw [if_pos hq2] at h1 ⊢
    exact Option.some.inj h1
  · rw [if_neg hq2] at h1 ⊢
    exact Option.some.inj h1
 refine⟨q,hQ,by rw[er];exact h2,fun hq2=>?_⟩;rw[if_pos hq2]at er;obtain⟨K2,h2⟩:=h2;have h3:ap.f K2 kind s=some r:=h2 K2 (Nat.le_refl _);rw[← er]at h3;exact nh hs h3
theorem fj(a:ByteArray)(b c:Int)(d:ByteArray)(ha:a.size≤1048576)(hd:d.size≤1048576): ∃ r q,Ev (fun k=>cf.f k a b c d) r∧Ev (fun k=>bW.f k a b c d) r∧Ev (fun k=>ag.f k b d) q∧Ev (fun k=>ap.f k b d) (if q.2=true then(q.1,true)else dT)∧r=(q.2&&(cO a.data.toList&&decide (0≤c∧c≤100000)))∧(q.2=true→d.size≤100):=by
 obtain⟨q,q1,q2,q3⟩:=ol b d hd;refine⟨q.2&&(cO a.data.toList&&decide (0≤c∧c≤100000)),q,?_,?_,q1,q2,rfl,q3⟩
 · refine Ev.congr (fun k => rfl) (Ev.bind q1 ?_)
   cases hq:q.2 with
   | false=>exact Ev.now _
   | true=>
    refine Ev.bind (gS a (by omega)) ?_
    cases hg:cO a.data.toList with
    | false=>exact Ev.now _
    | true=>
     simp only[if_true,dA,Option.bind_some,Bool.true_and];exact Ev.now _
 · cases hg:cO a.data.toList with
   | false=>
    rw[Bool.false_and,Bool.and_false];refine Ev.congr (fun k=>?_) (Ev.now _);unfold bW.f cg.f;rw[hg];rfl
   | true=>
    by_cases hc:0≤c∧c≤100000
    · rw [decide_eq_true hc, Bool.true_and, Bool.and_true]
      by_cases h100:(d.size:Int)>100
      · have hf:q.2=false:=by
         rw[Bool.eq_false_iff];intro h;have:=q3 h;omega
        rw[hf];refine Ev.congr (fun k=>?_) (Ev.now _);unfold bW.f cg.f;rw[hg,Option.bind_some,if_pos rfl,eZ,Option.bind_some,decide_eq_true hc,if_pos rfl,if_pos h100]
      · refine Ev.congr (f := fun k => (ap.f k b d).bind fun g0 => (some g0.2)) (fun k => ?_) (Ev.bind q2 ?_)
        · unfold bW.f cg.f
          rw[hg,Option.bind_some,if_pos rfl,eZ,Option.bind_some,decide_eq_true hc,if_pos rfl,if_neg h100]
        · cases q.2 with
          | false=>exact Ev.now _
          | true=>exact Ev.now _
    · rw [decide_eq_false hc, Bool.and_false, Bool.and_false]
      refine Ev.congr (fun k=>?_) (Ev.now _);unfold bW.f cg.f;rw[hg,Option.bind_some,if_pos rfl,eZ,Option.bind_some,decide_eq_false hc,if_neg (by simp)]
theorem oC{k:Nat}{kind:Int}{s x:ByteArray}(h:ap.f k kind s=some (x,true)): 1≤kind∧kind≤16:=by
 unfold ap.f at h
 by_cases c:1≤kind∧kind≤16
 ·exact c
 · rw [if_neg (by omega), if_neg (by omega), if_neg (by omega), if_neg (by omega), if_neg (by omega)] at h
   cases (Prod.mk.inj (Option.some.inj h)).2
theorem ik(a:ByteArray)(b c:Int)(d:ByteArray)(ha:a.size≤1048576)(hd:d.size≤1048576)(h:Ev (fun k=>bW.f k a b c d) true): a.size≤60∧cO a.data.toList=true∧(1≤b∧b≤16)∧(0≤c∧c≤100000)∧d.size≤100:=by
 obtain⟨r,q,r1,r2,q1,⟨K,q2⟩,hr,hs⟩:=fj a b c d ha hd;have e:=Ev.unique h r2;subst e;have hr:=hr.symm;rw[Bool.and_eq_true,Bool.and_eq_true,decide_eq_true_eq]at hr;have hK:ap.f K b d=some (if q.2=true then(q.1,true)else dT):=q2 K (Nat.le_refl _);rw[if_pos hr.1]at hK;have:=ec hr.2.1;rw[← aU]at this;exact⟨this,hr.2.1,oC hK,hr.2.2,hs hr.1⟩
end Go.Proofs.YtiegkjimpclmaaaGreatDoor.Pure

namespace Go.Proofs.YtiegkjimpclmaaaGreatDoor.P
attribute [local go_sem] cG cD c_ cZ ci ch cE cH
def cR.l0: Nat→ByteArray→List ByteArray→Int→Int→Option (ByteArray)
 | 0,_,_,_,_=>none
 | k+1,x3,x6,x7,x8=>if x8<x7 then(if 0≤x8 then(if x8<(x6.length:Int)then((bx.f k x3 (bn ByteArray.empty x6 x8)).bind fun g0=>(cR.l0 k g0 x6 x7 (wrap64 (x8+1))))else(none))else(none))else(some x3)
def cR.f(k:Nat)(l0:List ByteArray): Option (ByteArray):=cR.l0 k (⟨#[]⟩:ByteArray) l0 (l0.length:Int) 0
theorem cR.c(k:Nat)(A0:Option Addr)(c0:Nat)(l0:List ByteArray)(r:ByteArray)(w:World)(hr0:Kd.C Kd.string w A0 l0.length l0)(hc0:l0.length≤c0)(h:cR.f k l0=some r):
 Calls Tryz.prog 159 #[.slice A0 l0.length c0] w fun e w'=>e = .returned (.string r)∧Below w.heap.size w w':=by
 have HR0:=a0_ hr0;have HC0:=a0_ hc0;clear hr0 hc0;have HB:=a0_ (Below.refl w.heap.size w);have H:=h;clear h;unfold cR.f at H;have H':=a0_ H;clear H;go_enter Tryz.func159,Tryz.ntmps159;go_wp2;go_loopg [3,8] k (fun kq v3 v8 w'=> ∃ (x3_1:ByteArray) (x8_1:Int),v3 = .string x3_1∧v8 = .int .i64 x8_1∧ab (cR.l0 kq x3_1 l0 (l0.length:Int) x8_1=some r)∧ab (kq≤k)∧ab (Below w.heap.size w w'))
 case atStart=>exact⟨((⟨#[]⟩:ByteArray)),(0),rs_,rs_,H',⟨Nat.le_refl _⟩,⟨ay⟩⟩
 case round=>
  clear H';obtain⟨x3_1,x8_1,rfl,rfl,HA,HK1,HB⟩:=hrel
  cases gk with
  | zero=>exact absurd HA.out (by simp[cR.l0])
  | succ k1=>
   have H:=HA.out;clear HA;simp only[cR.l0]at H
   by_cases c2:x8_1<(l0.length:Int)
   case neg=>
    rw[if_neg c2]at H;have c2b0:=decide_eq_false c2;clear c2;obtain rfl:=Option.some.inj H;go_wp2;go_ret;exact⟨rr_,ay⟩
   rw[if_pos c2]at H;have c2b0:=decide_eq_true c2;clear c2
   by_cases c3:0≤x8_1
   case neg=>
    rw[if_neg c3]at H;exact absurd H (by simp)
   rw[if_pos c3]at H;have c3b0:=decide_eq_true c3;clear c3
   by_cases c4:x8_1<(l0.length:Int)
   case neg=>
    rw[if_neg c4]at H;exact absurd H (by simp)
   rw[if_pos c4]at H;have c4b0:=decide_eq_true c4;clear c4;obtain⟨g1,A5,H⟩:=ob_ H;have H':=a0_ H;clear H;have g2:=t0_ (x8_1);have g3:=tl_ (x8_1) (l0.length);obtain⟨g5,g4,g0⟩:=Kd.at_string HR0.out x8_1 (of_eq_true g2) (of_eq_true g3);cases g4;replace g0:=(HB.out.cell (World.block_lt_of_cell? w _ g0)).trans g0;go_wp2_with (first|((with_reducible refine gt_ 196 rfl ?_);refine gs_ 14 Tryz.func196 #[.string x3_1,.string (bn ByteArray.empty l0 x8_1)] ?_;(with_reducible refine(bx.c k1 x3_1 (bn ByteArray.empty l0 x8_1) g1 _ A5.out).mono ?_);rintro e w6 ⟨rfl,hb⟩;refine⟨_,rfl,?_⟩;replace HB:=a0_ (aa ay hb);clear hb));go_roundg k1
   case measure=>have:=HK1.out;omega
   case rel=>exact⟨(g1),(wrap64 (x8_1+1)),rs_,rs_,H',jl_ HK1,⟨ay⟩⟩
end Go.Proofs.YtiegkjimpclmaaaGreatDoor.P
namespace Go.Proofs.YtiegkjimpclmaaaGreatDoor.P
def ff(k:Nat)(b rest:ByteArray)(x:Int): Bool:=match ac.f k b x with
 | some t=>t.2.2.2&&(t.1.toList==rest.toList)
 | none=>false
def ke(k:Nat)(b:ByteArray)(places:List Int): Bool:=places.all fun x=>(ac.f k b x).isSome
def bD.l0: Nat→ByteArray→List Int→ByteArray→ByteArray→Option ByteArray
 | 0,_,_,_,_=>none
 | k+1,b,places,ahead,rest=>if rest.toList=([]:List UInt8)then(if b.size+ahead.size<1099511627776 then some ((b++ahead)++(⟨#[0]⟩:ByteArray))else none)else(if ke k b places=true then(if 0≤dS (ff k b rest) places 0 then(if b.size+ahead.size<1099511627776 then some ((b++ahead)++strOfNums [(wrap64 (192+(wrap64 (Int.tdiv (rd places (dS (ff k b rest) places 0)) 256))))%256,(rd places (dS (ff k b rest) places 0))%256])else none)else((cy.f rest (⟨#[46]⟩:ByteArray)).bind fun c=>(if ahead.size+c.1.size<1099511627776 then((dH.f rest).bind fun p=>bD.l0 k b places (ahead++(strOfNums [((c.1.size:Int))%256]++c.1)) p)else none)))else none)
def bD.f(k:Nat)(b s:ByteArray): Option ByteArray:=(be.f k b).bind fun places=>bD.l0 k b places (⟨#[]⟩:ByteArray) s
theorem jH(w:World)(v:Value)(t:TypeId): (w.alloc (Obj.cells #[v] t)).cell? ⟨w.heap.size,0,none⟩=some v:=by
 unfold World.cell?;rw[heap_alloc_new];simp
theorem pE(w3:World)(c1:Obj)(rest par:ByteArray)(t:TypeId)(nd:Nat):
 Below w3.heap.size w3 ((((w3.alloc c1).alloc (Obj.cells #[.string rest] t)).drewN nd).setCell ⟨w3.heap.size+1,0,none⟩ (.string par))∧((((w3.alloc c1).alloc (Obj.cells #[.string rest] t)).drewN nd).setCell ⟨w3.heap.size+1,0,none⟩ (.string par)).cell? ⟨w3.heap.size+1,0,none⟩=some (.string par):=by
 have hs:(w3.alloc c1).heap.size=w3.heap.size+1:=by simp[World.alloc,-World.alloc_eq]
 have hq0:((w3.alloc c1).alloc (Obj.cells #[.string rest] t)).heap[w3.heap.size+1]? = some (.cells #[.string rest] t):=by rw[← hs];exact heap_alloc_new _ _
 have hq:(((w3.alloc c1).alloc (Obj.cells #[.string rest] t)).drewN nd).heap[w3.heap.size+1]? = some (.cells #[.string rest] t):=hq0;have b1:Below w3.heap.size w3 (((w3.alloc c1).alloc (Obj.cells #[.string rest] t)).drewN nd):=bv (bF (bF (Below.refl _ _) _) _) nd;rw[setCell_eq_setRow _ _ _ _ _ _ _ hq];refine⟨⟨b1.os,b1.tape,b1.output,by rw[setRow_size];exact b1.size,fun k hk=>by rw[setRow_other _ _ _ _ (by omega)];exact b1.block k hk⟩,?_⟩;unfold World.cell?;rw[setRow_heap _ _ _ _ _ _ hq];simp
theorem pC(k:Nat)(b rest:ByteArray)(places:List Int)(hd:ke k b places=true)(W:World)(gb gr:Nat)
 (hb:W.cell? ⟨gb,0,none⟩=some (.string b)) (hr:W.cell? ⟨gr,0,none⟩=some (.string rest)) :
 jK 243 #[.pointer (some ⟨gb,0,none⟩),.pointer (some ⟨gr,0,none⟩)] (.int .i64) (ff k b rest) places W:=by
 intro x hx W' hW;have h1:=List.all_eq_true.1 hd x hx;obtain⟨t,ht⟩:=Option.isSome_iff_exists.1 h1;obtain⟨t1,t2,t3,t4⟩:=t
 have e:ff k b rest x=(t4&&(t1.toList==rest.toList)):=by unfold ff;rw[ht]
 rw[e];exact mg k b rest x t1 t2 t3 t4 ht W' gb gr ((hW.cell (World.block_lt_of_cell? _ _ hb)).trans hb) ((hW.cell (World.block_lt_of_cell? _ _ hr)).trans hr)
theorem nX{α:Type}(p:α→Bool)(xs:List α): dS p xs 0<(xs.length:Int):=by
 have:∀ (xs:List α) (i:Int),0≤i→dS p xs i<i+(xs.length:Int)∨dS p xs i = -1:=by
  intro xs
  induction xs with
  | nil=>intro i _;exact .inr rfl
  | cons x xs ih=>
   intro i h0;unfold dS
   split
   ·left;simp only[List.length_cons];omega
   · rcases ih (i + 1) (by omega) with h | h
     ·left;simp only[List.length_cons];omega
     ·exact .inr h
 rcases this xs 0 (by omega)with h|h
 ·omega
 ·rw[h];omega
set_option maxHeartbeats 4000000 in
theorem qh(k:Nat)(b s:ByteArray)(places:List Int)(r:ByteArray)(w:World)(h:be.f k b=some places)(h2:bD.l0 k b places (⟨#[]⟩:ByteArray) s=some r):
 Calls Tryz.prog 199 #[.string b,.string s] w fun e w'=>e = .returned (.string r)∧Below w.heap.size w w':=by
 have sc:=fun W=>be.c k b places W h
 have H':=ab.mk h2;clear h h2;go_enter Tryz.func199,Tryz.ntmps199;go_wp2_with (go_at_call 240;refine(sc _).mono ?_;rintro e w1 ⟨v,rfl,hR,hbw⟩;have HO:=ab.mk hR;have HB1:=ab.mk hbw;clear hR hbw;obtain⟨A,c,rfl⟩:=Kd.R_slice HO.out);go_loopg [6,7] k (fun kq v6 v7 wr=> ∃ (ahead rest:ByteArray) (gr:Nat),v6 = .string ahead∧v7 = .pointer (some ⟨gr,0,none⟩)∧ab (bD.l0 kq b places ahead rest=some r)∧ab (kq≤k)∧ab (Kd.C (Kd.int .i64) wr A places.length places)∧ab (wr.cell? ⟨w.heap.size,0,none⟩=some (.string b))∧ab (wr.cell? ⟨gr,0,none⟩=some (.string rest))∧ab (w.heap.size≤gr)∧ab (Below w.heap.size w wr))
 case atStart=>
  have hc0:(w.alloc (Obj.cells #[.string b] 9)).cell? ⟨w.heap.size,0,none⟩=some (.string b):=jH w _ _;have hc1:=(HB1.out.cell (World.block_lt_of_cell? _ _ hc0)).trans hc0;have hw1:w.heap.size≤w1.heap.size:=Nat.le_trans (bF (Below.refl _ w) _).size HB1.out.size;exact⟨(⟨#[]⟩:ByteArray),s,w1.heap.size,rfl,rfl,H',⟨Nat.le_refl _⟩,⟨(Kd.R_reads' (Kd.R_alloc HO.out _)).2.2⟩,⟨(World.cell?_alloc_lt _ _ _ (World.block_lt_of_cell? _ _ hc1)).trans hc1⟩,⟨jH w1 _ _⟩,⟨hw1⟩,⟨bF (bj (bF (Below.refl _ w) _) (bF (Below.refl _ w) _).size HB1.out) _⟩⟩
 case round=>
  obtain⟨ahead,rest,gr,rfl,rfl,HA,HK1,HC,HB,HR,HG,BW⟩:=hrel
  cases gk with
  | zero=>exact absurd HA.out (by simp[bD.l0])
  | succ k1=>
   have H:=HA.out;clear HA;simp only[bD.l0]at H
   by_cases c1:rest.toList=([]:List UInt8)
   · rw [if_pos c1] at H
     have c1b:(rest.toList==([]:List UInt8))=true:=by rw[c1];rfl
     have c1c:(rest.toList !=([]:List UInt8))=false:=by rw[c1];rfl
     by_cases c4:b.size+ahead.size<1099511627776
     · rw [if_pos c4] at H
       have c5a:=eq_true (show b.size+ahead.size≤9223372036854775807 by omega);have c5b:decide (b.size+ahead.size≤9223372036854775807)=true:=decide_eq_true (by omega);have c5c:(9223372036854775807<b.size+ahead.size)=False:=eq_false (by omega);have hbs:(b++ahead).size=b.size+ahead.size:=ByteArray.size_append;have c6a:=eq_true (show b.size+ahead.size+1≤9223372036854775807 by omega);have c6b:decide (b.size+ahead.size+1≤9223372036854775807)=true:=decide_eq_true (by omega);have c6c:(9223372036854775807<b.size+ahead.size+1)=False:=eq_false (by omega);clear hbs;have hb0:=HB.out;have hr0:=HR.out;go_wp2;go_ret;obtain rfl:=Option.some.inj H;exact⟨rfl,BW.out⟩
     · rw [if_neg c4] at H
       cases H
   · rw [if_neg c1] at H
     have c1b:(rest.toList==([]:List UInt8))=false:=beq_eq_false_iff_ne.mpr c1
     have c1c:(rest.toList !=([]:List UInt8))=true:=by rw[bne,c1b];rfl
     by_cases c2:ke k1 b places=true
     · rw [if_pos c2] at H
       have eg:∀ args w,(callFunc 243 args).run Tryz.prog w = .ok (.enter 243 args) w:=enters_of Tryz.func243 (by kernel_rfl) rfl
       have ic:=fun W (hbW:Below wr.heap.size wr W)=>oS A c places 243 #[.pointer (some ⟨w.heap.size,0,none⟩),.pointer (some ⟨gr,0,none⟩)] (ff k1 b rest) W (Kd.C_below HC.out hbW) eg (pC k1 b rest places c2 W w.heap.size gr ((hbW.cell (World.block_lt_of_cell? _ _ HB.out)).trans HB.out) ((hbW.cell (World.block_lt_of_cell? _ _ HR.out)).trans HR.out))
       have hb0:=HB.out;have hr0:=HR.out;generalize hi:dS (ff k1 b rest) places 0=i at H ic;have HI:=ab.mk hi;clear hi;have ic0:=ic wr (Below.refl _ _);clear ic eg
       by_cases c3:0≤i
       · rw [if_pos c3] at H
         have c3b:decide (0≤i)=true:=decide_eq_true c3
         have hil:i<(places.length:Int):=by have:=nX (ff k1 b rest) places;rw[HI.out]at this;omega
         by_cases c4:b.size+ahead.size<1099511627776
         · rw [if_pos c4] at H
           obtain⟨ad,e0,hx0⟩:=Kd.at_int HC.out i c3 hil;cases e0;have c5a:=eq_true (show b.size+ahead.size≤9223372036854775807 by omega);have c5b:decide (b.size+ahead.size≤9223372036854775807)=true:=decide_eq_true (by omega);have c5c:(9223372036854775807<b.size+ahead.size)=False:=eq_false (by omega);generalize rd places i=pv at H hx0;obtain⟨y,hy⟩:∃ y:List Int,y=[(wrap64 (192+(wrap64 (Int.tdiv pv 256))))%256,pv%256]:=⟨_,rfl⟩;rw[← hy]at H
           have hys:(strOfNums y).size=2:=by rw[hy,strOfNums_size];rfl
           have Ny:=ab.mk hy;clear hy;have hbs:(b++ahead).size=b.size+ahead.size:=ByteArray.size_append;have c6a:=eq_true (show b.size+ahead.size+(strOfNums y).size≤9223372036854775807 by omega);have c6b:decide (b.size+ahead.size+(strOfNums y).size≤9223372036854775807)=true:=decide_eq_true (by omega);have c6c:(9223372036854775807<b.size+ahead.size+(strOfNums y).size)=False:=eq_false (by omega);have c3z:=eq_true c3;have hilz:=eq_true hil;clear hys hbs;go_wp2_with (go_at_call 242;refine ic0.mono ?_;rintro e w2 ⟨rfl,hb2⟩);have hb3:=((hb2.cell (World.block_lt_of_cell? _ _ hb0)).trans hb0);have hx:=((hb2.cell (World.block_lt_of_cell? _ _ hx0)).trans hx0);have BW2:=ab.mk (bp (bj BW.out BW.out.size hb2));refine gl (n:=19) (S:=fun w'=>w'.cell? ⟨w.heap.size,0,none⟩=some (.string b)∧w'.cell? (ad.add i.toNat)=some (.int .i64 pv)) (ds:=[]) #[false,false,false,false,false,false,false,false,false,false,false,false,false,false,false,false,false,false,false] (by kernel_rfl) rfl rfl ⟨hb3,hx⟩ (fun hHeld=>?_);generalize hw3:w2.drew=w3 at BW2 hb3 hx hHeld ⊢
           refine dE (i:=1) (N:=some 25) (v:=?_) (a':=?_) #[false,true,false,false,false,false,false,false,false,false,false,false,false,false,false,false,false,false,false] rfl rfl (by kernel_rfl) (fun _ _ _ h=>h) (Or.inl ⟨by rfl,?_⟩) ?_ ?_
           rotate_left
           · intro w'
             go_simp
             with_reducible rfl
           rotate_left
           · simp only [Act.put, List.setIfInBounds_toArray, List.set_cons_zero, List.set_cons_succ, bu, bI]
             rfl
           refine dE (i:=3) (N:=some 27) (v:=?_) (a':=?_) #[false,true,false,true,false,false,false,false,false,false,false,false,false,false,false,false,false,false,false] rfl rfl (by kernel_rfl) (fun _ _ _ h=>h) (Or.inl ⟨by rfl,?_⟩) ?_ ?_
           rotate_left
           · intro w'
             go_simp
             with_reducible rfl
           rotate_left
           · simp only [Act.put, List.setIfInBounds_toArray, List.set_cons_zero, List.set_cons_succ, bu, bI]
             rfl
           refine dE (i:=4) (N:=some 28) (v:=?_) (a':=?_) #[false,true,false,true,true,false,false,false,false,false,false,false,false,false,false,false,false,false,false] rfl rfl (by kernel_rfl) (fun _ _ _ h=>h) (Or.inl ⟨by rfl,?_⟩) ?_ ?_
           rotate_left
           · intro w'
             go_simp
             with_reducible rfl
           rotate_left
           · simp only [Act.put, List.setIfInBounds_toArray, List.set_cons_zero, List.set_cons_succ, bu, bI]
             rfl
           refine dE (i:=5) (N:=some 29) (v:=?_) (a':=?_) #[false,true,false,true,true,true,false,false,false,false,false,false,false,false,false,false,false,false,false] rfl rfl (by kernel_rfl) (fun _ _ _ h=>h) (Or.inl ⟨by rfl,?_⟩) ?_ ?_
           rotate_left
           · intro w'
             go_simp
             with_reducible rfl
           rotate_left
           · simp only [Act.put, List.setIfInBounds_toArray, List.set_cons_zero, List.set_cons_succ, bu, bI]
             rfl
           refine dE (i:=10) (N:=some 34) (v:=?_) (a':=?_) #[false,true,false,true,true,true,false,false,false,false,true,false,false,false,false,false,false,false,false] rfl rfl (by kernel_rfl) (fun _ _ _ h=>h) (Or.inl ⟨by rfl,?_⟩) ?_ ?_
           rotate_left
           · intro w'
             go_simp
             with_reducible rfl
           rotate_left
           · simp only [Act.put, List.setIfInBounds_toArray, List.set_cons_zero, List.set_cons_succ, bu, bI]
             rfl
           refine dE (i:=11) (N:=some 35) (v:=?_) (a':=?_) #[false,true,false,true,true,true,false,false,false,false,true,true,false,false,false,false,false,false,false] rfl rfl (by kernel_rfl) (fun _ _ _ h=>h) (Or.inl ⟨by rfl,?_⟩) ?_ ?_
           rotate_left
           · intro w'
             go_simp
             with_reducible rfl
           rotate_left
           · simp only [Act.put, List.setIfInBounds_toArray, List.set_cons_zero, List.set_cons_succ, bu, bI]
             rfl
           refine dE (i:=12) (N:=some 36) (v:=?_) (a':=?_) #[false,true,false,true,true,true,false,false,false,false,true,true,true,false,false,false,false,false,false] rfl rfl (by kernel_rfl) (fun _ _ _ h=>h) (Or.inl ⟨by rfl,?_⟩) ?_ ?_
           rotate_left
           · intro w'
             go_simp
             with_reducible rfl
           rotate_left
           · simp only [Act.put, List.setIfInBounds_toArray, List.set_cons_zero, List.set_cons_succ, bu, bI]
             rfl
           refine take_ (i:=0) (N:=some 24) (v:=?_) (a':=?_) #[true,true,false,true,true,true,false,false,false,false,true,true,true,false,false,false,false,false,false] rfl rfl (by kernel_rfl) (fun _ _ _ h=>h) (Or.inl ⟨by rfl,?_⟩) hHeld ?_ ?_
           rotate_left
           · rintro w' ⟨s0, s1⟩
             go_simp
             with_reducible rfl
           rotate_left
           · simp only [Act.put, List.setIfInBounds_toArray, List.set_cons_zero, List.set_cons_succ, bu, bI]
             rfl
           refine dE (i:=2) (N:=some 26) (v:=?_) (a':=?_) #[true,true,true,true,true,true,false,false,false,false,true,true,true,false,false,false,false,false,false] rfl rfl (by kernel_rfl) (fun _ _ _ h=>h) (Or.inl ⟨by rfl,?_⟩) ?_ ?_
           rotate_left
           · intro w'
             go_simp
             with_reducible rfl
           rotate_left
           · simp only [Act.put, List.setIfInBounds_toArray, List.set_cons_zero, List.set_cons_succ, bu, bI]
             rfl
           refine take_ (i:=6) (N:=some 30) (v:=?_) (a':=?_) #[true,true,true,true,true,true,true,false,false,false,true,true,true,false,false,false,false,false,false] rfl rfl (by kernel_rfl) (fun _ _ _ h=>h) (Or.inl ⟨by rfl,?_⟩) hHeld ?_ ?_
           rotate_left
           · rintro w' ⟨s0, s1⟩
             go_simp
             with_reducible rfl
           rotate_left
           · simp only [Act.put, List.setIfInBounds_toArray, List.set_cons_zero, List.set_cons_succ, bu, bI]
             rfl
           refine dE (i:=7) (N:=some 31) (v:=?_) (a':=?_) #[true,true,true,true,true,true,true,true,false,false,true,true,true,false,false,false,false,false,false] rfl rfl (by kernel_rfl) (fun _ _ _ h=>h) (Or.inl ⟨by rfl,?_⟩) ?_ ?_
           rotate_left
           · intro w'
             go_simp
             with_reducible rfl
           rotate_left
           · simp only [Act.put, List.setIfInBounds_toArray, List.set_cons_zero, List.set_cons_succ, bu, bI]
             rfl
           refine dE (i:=8) (N:=some 32) (v:=?_) (a':=?_) #[true,true,true,true,true,true,true,true,true,false,true,true,true,false,false,false,false,false,false] rfl rfl (by kernel_rfl) (fun _ _ _ h=>h) (Or.inl ⟨by rfl,?_⟩) ?_ ?_
           rotate_left
           · intro w'
             go_simp
             with_reducible rfl
           rotate_left
           · simp only [Act.put, List.setIfInBounds_toArray, List.set_cons_zero, List.set_cons_succ, bu, bI]
             rfl
           refine dE (i:=9) (N:=some 33) (v:=?_) (a':=?_) #[true,true,true,true,true,true,true,true,true,true,true,true,true,false,false,false,false,false,false] rfl rfl (by kernel_rfl) (fun _ _ _ h=>h) (Or.inl ⟨by rfl,?_⟩) ?_ ?_
           rotate_left
           · intro w'
             go_simp
             with_reducible rfl
           rotate_left
           · simp only [Act.put, List.setIfInBounds_toArray, List.set_cons_zero, List.set_cons_succ, bu, bI]
             rfl
           refine take_ (i:=13) (N:=some 37) (v:=?_) (a':=?_) #[true,true,true,true,true,true,true,true,true,true,true,true,true,true,false,false,false,false,false] rfl rfl (by kernel_rfl) (fun _ _ _ h=>h) (Or.inl ⟨by rfl,?_⟩) hHeld ?_ ?_
           rotate_left
           · rintro w' ⟨s0, s1⟩
             go_simp
             with_reducible rfl
           rotate_left
           · simp only [Act.put, List.setIfInBounds_toArray, List.set_cons_zero, List.set_cons_succ, bu, bI]
             rfl
           refine dE (i:=14) (N:=some 38) (v:=?_) (a':=?_) #[true,true,true,true,true,true,true,true,true,true,true,true,true,true,true,false,false,false,false] rfl rfl (by kernel_rfl) (fun _ _ _ h=>h) (Or.inl ⟨by rfl,?_⟩) ?_ ?_
           rotate_left
           · intro w'
             go_simp
             with_reducible rfl
           rotate_left
           · simp only [Act.put, List.setIfInBounds_toArray, List.set_cons_zero, List.set_cons_succ, bu, bI]
             rfl
           refine lN (i:=15) (N:=some 39) #[true,true,true,true,true,true,true,true,true,true,true,true,true,true,true,true,false,false,false] rfl rfl (by kernel_rfl) (by decide) (fun K hK=>?_)
           refine Kd.R_lit_step (Kd.int .u8) _ 5 ?hg (N:=39) ?hd (xs:=([(wrap64 (192+(wrap64 (Int.tdiv pv 256))))%256,pv%256]:List Int)) (inner:=[.int .u8 ((wrap64 (192+(wrap64 (Int.tdiv pv 256))))%256),.int .u8 (pv%256)]) (ok:=fun _=>True) (okp:=fun _=>True) ?hr ?hp (fun _ hk=>hk) trivial (Below.refl _ _) (Nat.le_refl _) (by simp) ?_;(case hd=>rfl);(case hg=>rfl);(case hr=>first|(go_simp;done)|(go_simp;rfl));(case hp=>exact(br.one (show Kd.M (Kd.int .u8) _ _ _ ((wrap64 (192+(wrap64 (Int.tdiv pv 256))))%256) [.int .u8 ((wrap64 (192+(wrap64 (Int.tdiv pv 256))))%256)]from rfl) (br.one (show Kd.M (Kd.int .u8) _ _ _ (pv%256) [.int .u8 (pv%256)]from rfl) (br.none _ _))))
           intro vL wL hoL hb hg_ hnew_;have HS0_:=(hb.cell (World.block_lt_of_cell? _ _ (hHeld.1))).trans (hHeld.1);have HS1_:=(hb.cell (World.block_lt_of_cell? _ _ (hHeld.2))).trans (hHeld.2)
           (first|rw[← Ny.out]at hoL|(simp only[Int.reduceToNat]at hoL;rw[← Ny.out]at hoL));have HLIT:=ab.mk hoL
           have n4_:=ab.mk (aa BW2.out hb);clear BW2;have BW2:=n4_;clear n4_ hg_ hnew_ hb hoL;refine hK.out _ _ ⟨HS0_,HS1_⟩ (fun hHeld=>?_);clear hK K
           refine fi (a':=?_) ?_ ?_
           rotate_left
           · show Act.put _ (some 39) _ = _
             simp only[Act.put,List.setIfInBounds_toArray,List.set_cons_zero,List.set_cons_succ,bu,bI];rfl
           refine lN (i:=16) (N:=some 40) #[true,true,true,true,true,true,true,true,true,true,true,true,true,true,true,true,true,false,false] rfl rfl (by kernel_rfl) (by decide) (fun K hK=>?_);have hcvL:=ea (P:=Tryz.prog) Tryz.underlying43 Tryz.underlying5 Tryz.underlying9 (Kd.own_of_R HLIT.out)
           refine iV (w1:=?_) (v:=?_) (by rfl) rfl ?_ ?_
           rotate_left 2
           · go_simp
             constructor
             ·rfl
             ·rfl
           clear hcvL;refine hK.out _ _ ⟨hHeld.1,hHeld.2⟩ (fun hHeld=>?_);clear hK K
           refine fi (a':=?_) ?_ ?_
           rotate_left
           · show Act.put _ (some 40) _ = _
             simp only[Act.put,List.setIfInBounds_toArray,List.set_cons_zero,List.set_cons_succ,bu,bI];rfl
           refine dE (i:=17) (N:=some 41) (v:=?_) (a':=?_) #[true,true,true,true,true,true,true,true,true,true,true,true,true,true,true,true,true,true,false] rfl rfl (by kernel_rfl) (fun _ _ _ h=>h) (Or.inl ⟨by rfl,?_⟩) ?_ ?_
           rotate_left
           · intro w'
             go_simp
             with_reducible rfl
           rotate_left
           · simp only [Act.put, List.setIfInBounds_toArray, List.set_cons_zero, List.set_cons_succ, bu, bI]
             rfl
           refine dE (i:=18) (N:=some 4) (v:=?_) (a':=?_) #[true,true,true,true,true,true,true,true,true,true,true,true,true,true,true,true,true,true,true] rfl rfl (by kernel_rfl) (fun _ _ _ h=>h) (Or.inl ⟨by rfl,?_⟩) ?_ ?_
           rotate_left
           · intro w'
             go_simp
             with_reducible rfl
           rotate_left
           · simp only [Act.put, List.setIfInBounds_toArray, List.set_cons_zero, List.set_cons_succ, bu, bI]
             rfl
           refine dZ (by kernel_rfl) ?_
           go_wp2;go_ret;obtain rfl:=Option.some.inj H;exact⟨rfl,BW2.out⟩
         · rw [if_neg c4] at H
           cases H
       · rw [if_neg c3] at H
         have c3b:decide (0≤i)=false:=decide_eq_false c3;replace H:=Option.bind_eq_some_iff.mp H;obtain⟨⟨q1,q2,q3⟩,hcut,H⟩:=H;replace H:(if ahead.size+q1.size<1099511627776 then((dH.f rest).bind fun p=>bD.l0 k1 b places (ahead++(strOfNums [((q1.size:Int))%256]++q1)) p)else none)=some r:=H
         by_cases c4:ahead.size+q1.size<1099511627776
         · rw [if_pos c4] at H
           replace H:=Option.bind_eq_some_iff.mp H;obtain⟨par,hpar,H⟩:=H
           have cutc:=fun W=>cy.c rest (⟨#[46]⟩:ByteArray) q1 q2 q3 W hcut
           have parc:=fun W=>dH.c rest par W hpar
           have hcv0:=fun W:World=>eD (P:=Tryz.prog) (src:=43) (dst:=9) (c:=1) (w:=W.alloc (Obj.cells #[.int .u8 ((q1.size:Int)%256)] 5)) (A:=some ⟨W.heap.size,0,none⟩) (n:=1) (xs:=[(q1.size:Int)%256]) Tryz.underlying43 Tryz.underlying5 Tryz.underlying9 ⟨rfl,by omega,fun _=>⟨_,rfl,fun j hj=>by
            obtain rfl:j=0:=by omega
            exact jH W _ _⟩⟩
           have hsb:(strOfNums [(q1.size:Int)%256]).size=1:=by rw[strOfNums_size];rfl
           generalize strOfNums [(q1.size:Int)%256]=sb at H hcv0 hsb;have c5a:=eq_true (show sb.size+q1.size≤9223372036854775807 by omega);have c5b:decide (sb.size+q1.size≤9223372036854775807)=true:=decide_eq_true (by omega);have c5c:(9223372036854775807<sb.size+q1.size)=False:=eq_false (by omega);have c6a:=eq_true (show ahead.size+(sb.size+q1.size)≤9223372036854775807 by omega);have c6b:decide (ahead.size+(sb.size+q1.size)≤9223372036854775807)=true:=decide_eq_true (by omega);have c6c:(9223372036854775807<ahead.size+(sb.size+q1.size))=False:=eq_false (by omega);clear hsb;have HN:=ab.mk H;clear H;go_wp2_with (first|(go_at_call 242;refine ic0.mono ?_;rintro e w2 ⟨rfl,hb2⟩;have hb3:=(hb2.cell (World.block_lt_of_cell? _ _ hb0)).trans hb0;have hr3:=(hb2.cell (World.block_lt_of_cell? _ _ hr0)).trans hr0;have BW2:=bj BW.out BW.out.size hb2;have HC2:=ab.mk (Kd.C_below HC.out hb2))|(go_at_call 92;refine(cutc _).mono ?_;rintro e w3_ ⟨rfl,⟨nd,rfl⟩⟩;have hbd:=bv (Below.refl w2.heap.size w2) nd;have hb4:=(hbd.cell (World.block_lt_of_cell? _ _ hb3)).trans hb3;have hr4:=(hbd.cell (World.block_lt_of_cell? _ _ hr3)).trans hr3;have BW3:=ab.mk (bv BW2 nd);have HC3:=ab.mk (Kd.C_below HC2.out hbd);clear hbd;generalize w2.drewN nd=w3 at hb4 hr4 BW3 HC3 ⊢;have hr5:=(World.cell?_alloc_lt w3 (Obj.cells #[.int .u8 ((q1.size:Int)%256)] 5) _ (World.block_lt_of_cell? _ _ hr4)).trans hr4;have hcv:=hcv0 w3)|(go_at_call 241;refine(parc _).mono ?_;rintro e w5_ ⟨rfl,⟨nd5,rfl⟩⟩));obtain⟨nx1,nx2⟩:=pE w3 (Obj.cells #[.int .u8 ((q1.size:Int)%256)] 5) rest par 9 nd5;go_roundg k1
           case measure=>have:=HK1.out;omega
           case rel=>exact⟨ahead++(sb++q1),par,w3.heap.size+1,rfl,rfl,HN,⟨by have:=HK1.out;omega⟩,⟨Kd.C_below HC3.out nx1⟩,⟨(nx1.cell (World.block_lt_of_cell? _ _ hb4)).trans hb4⟩,⟨nx2⟩,⟨by have:=BW3.out.size;omega⟩,⟨bj BW3.out BW3.out.size nx1⟩⟩
         · rw [if_neg c4] at H
           cases H
     · rw [if_neg c2] at H
       cases H
theorem jD{α:Type}(p q:α→Bool): ∀ (xs:List α) (i:Int),(∀ x∈xs,p x=q x)→dS p xs i=dS q xs i
 | [],i,_=>rfl
 | x::xs,i,h=>by
  unfold dS;rw[h x List.mem_cons_self,jD p q xs (i+1) fun y hy=>h y (List.mem_cons_of_mem _ hy)]
theorem bD.c(k:Nat)(a0:ByteArray)(a1:ByteArray)(r:ByteArray)(w:World)(h:bD.f k a0 a1=some r):
 Calls Tryz.prog 199 #[.string a0,.string a1] w fun e w'=>e = .returned (.string r)∧Below w.heap.size w w':=by
 unfold bD.f at h;obtain⟨p,hp,h⟩:=Option.bind_eq_some_iff.mp h;exact qh k a0 a1 p r w hp h
end Go.Proofs.YtiegkjimpclmaaaGreatDoor.P
namespace Go.Proofs.YtiegkjimpclmaaaGreatDoor.P
abbrev jT:=S45
abbrev CR1(w W:World)(ok:Nat→Prop)(v:Value)(l:List jT): Prop:=Kd.R k45 45 W w.heap.size ok v l
structure CV where
 (u v:Value)
 (x y:List jT)
structure Cu (w0 w W:World) (g:Nat) (l:List Int) (p q:Int) (bs:List (Nat×Array Value)) (ms:List CV) (ns:List (Value×List Int)):Prop where
 i:ak w0 W g l p q
 b:Below w0.heap.size w0 W
 kk:aJ w W g none
 sz:w0.heap.size≤w.heap.size
 k:∀ z∈bs,W.heap[z.1]? = some (.cells z.2 62 (0,0))∧w.heap.size≤z.1
 r:∀ z∈ms,CR1 w W (fun k=>some k≠z.v.ownBlock) z.u z.x∧CR1 w W (fun k=>some k≠z.u.ownBlock) z.v z.y
 n:∀ z∈ns,Kd.R (Kd.int .i64) 3 W w.heap.size (fun _=>True) z.1 z.2
section
variable {P:Program} {md:Region.Mode} {ops:Array Oper} {Q:Exit→Act→World→Prop} {S:World→Prop} {ds:List Nat} {fuel:Nat} {l:Array Bool} {a a':Act} {w:World}
theorem nj_(h:aZ P md ops Q S ds fuel l a' w)(ha:a=a':=by first|(simp only[f_,Act.put,List.setIfInBounds_toArray,List.set_cons_zero,List.set_cons_succ];done)|(simp only[f_,Act.put,List.setIfInBounds_toArray,List.set_cons_zero,List.set_cons_succ];rfl)): aZ P md ops Q S ds fuel l a w:=fi ha h
theorem nz_(h:aZ P md ops Q S ds fuel l a' w)(ha:a=a':=by simp only[f_,Act.put,List.setIfInBounds_toArray,List.set_cons_zero,List.set_cons_succ];rfl): aZ P md ops Q S ds fuel l a w:=fi ha h
theorem bx_{o:Oper}{Kc:Act→World→Prop}(N:Tmp)(cs:Array Value)(t:TypeId)
 (h:∀ g,g=w.heap.size→∀ w1,w1.heap[g]? = some (.cells cs t (0,0))→Below w.heap.size w w1→Kc (a.put o.dst (.pointer (some ⟨g,0,none⟩))) w1) (hd:o.dst=some N:=by rfl) (hw:Region.wanted o (yielded ops a.tmps)=true:=by rfl)
 (hrun:(execOp a.eval o).run P w = .ok (.value (.pointer (some ⟨w.heap.size,0,none⟩))) (w.alloc (.cells cs t (0,0))):=by first|(go_simp;done)|(go_simp;rfl)):if Region.wanted o (yielded ops a.tmps)=true then Oper.wp P o a w Kc Q else Kc (a.put o.dst undef) w:=pp hw hd hrun h
end
section
variable {w0 w W W':World} {g:Nat} {l:List Int} {p q p' q':Int} {bs:List (Nat×Array Value)} {ms:List CV} {ns:List (Value×List Int)}
theorem Cu.new(hI:ak w0 w g l p q)(hB:Below w0.heap.size w0 w): Cu w0 w w g l p q [] [] []:=⟨hI,hB,aJ.refl w g none,hB.size,(fun _ h=>nomatch h),(fun _ h=>nomatch h),(fun _ h=>nomatch h)⟩
theorem Cu.below(a:Cu w0 w W g l p q bs ms ns)(hb:Below W.heap.size W W'): Cu w0 w W' g l p q bs ms ns:=
 ⟨a.i.below hb,aa a.b hb,a.kk.trans (aJ.of_below hb g none) (.inl rfl),a.sz,fun z hz=>⟨b_ (a.k z hz).1 hb,(a.k z hz).2⟩,fun z hz=>⟨Kd.R_below (a.r z hz).1 hb,Kd.R_below (a.r z hz).2 hb⟩,fun z hz=>Kd.R_below (a.n z hz) hb⟩
theorem Cu.drew(a:Cu w0 w W g l p q bs ms ns): Cu w0 w W.drew g l p q bs ms ns:=a.below (eV (Below.refl _ _))
theorem Cu.far(a:Cu w0 w W g l p q bs ms ns){z:Nat×Array Value}(hz:z∈bs): g≠z.1:=a.i.ne_blk (a.k z hz).1 (by decide)
theorem Cu.keep(a:Cu w0 w W g l p q bs ms ns)(hi:ak w0 W' g l p' q')(hb:Below w0.heap.size w0 W')(hk:aJ W W' g none): Cu w0 w W' g l p' q' bs ms ns:=
 ⟨hi,hb,a.kk.trans hk (.inl rfl),a.sz,fun z hz=>⟨hk.blk (a.k z hz).1 (a.far hz).symm (by simp),(a.k z hz).2⟩,fun z hz=>⟨Kd.R_mono (Kd.R_keep (a.i.apart (a.r z hz).1 (by decide)) hk (fun _ h=>h.2)) (fun _ h=>h.1),Kd.R_mono (Kd.R_keep (a.i.apart (a.r z hz).2 (by decide)) hk (fun _ h=>h.2)) (fun _ h=>h.1)⟩,fun z hz=>Kd.R_mono (Kd.R_keep (a.i.apart (a.n z hz) (by decide)) hk (fun _ h=>h.2)) (fun _ h=>h.1)⟩
theorem Cu.size(a:Cu w0 w W g l p q bs ms ns): w.heap.size≤W.heap.size:=a.kk.1
theorem Cu.box{b:Nat}{cs:Array Value}(a:Cu w0 w W g l p q bs ms ns)(hg:b=W.heap.size)(hbox:W'.heap[b]? = some (.cells cs 62 (0,0)))(hb:Below W.heap.size W W'): Cu w0 w W' g l p q ((b,cs)::bs) ms ns:=by
 have a':=a.below hb;refine⟨a'.i,a'.b,a'.kk,a'.sz,fun z hz=>?_,a'.r,a'.n⟩
 rcases List.mem_cons.1 hz with rfl|hz
 ·exact⟨hbox,by rw[hg];exact a.size⟩
 ·exact a'.k z hz
theorem Cu.apart{b:Nat}(a:Cu w0 w W g l p q bs ms ns)(hg:b=W.heap.size): ∀ z∈bs,z.1≠b:=fun z hz e=>by have:=cB (a.k z hz).1;omega
theorem Cu.lit{v:Value}{xs:List Int}(a:Cu w0 w W g l p q bs ms ns)(hb:Below W.heap.size W W')(h:Kd.R (Kd.int .i64) 3 W' W.heap.size (fun _=>True) v xs): Cu w0 w W' g l p q bs ms ((v,xs)::ns):=by
 have a':=a.below hb;refine⟨a'.i,a'.b,a'.kk,a'.sz,a'.k,a'.r,fun z hz=>?_⟩
 rcases List.mem_cons.1 hz with rfl|hz
 ·exact Kd.R_lower h a.size
 ·exact a'.n z hz
theorem Cu.rows{u v:Value}{x y:List jT}(a:Cu w0 w W g l p q bs ms ns)(hb:Below W.heap.size W W')(h0:Kd.R k45 45 W' W.heap.size (fun k_=>some k_≠v.ownBlock) u x)(h1:Kd.R k45 45 W' W.heap.size (fun k_=>some k_≠u.ownBlock) v y): Cu w0 w W' g l p q bs (⟨u,v,x,y⟩::ms) ns:=by
 have a':=a.below hb;refine⟨a'.i,a'.b,a'.kk,a'.sz,a'.k,fun z hz=>?_,a'.n⟩
 rcases List.mem_cons.1 hz with rfl|hz
 ·exact⟨Kd.R_lower h0 a.size,Kd.R_lower h1 a.size⟩
 ·exact a'.r z hz
theorem Cu.row{u:Value}{x:List jT}(a:Cu w0 w W g l p q bs ms ns)(hi:ak w0 W' g l p' q')(hb:Below w0.heap.size w0 W')(hk:aJ W W' g none)(h0:Kd.R k45 45 W' W.heap.size (fun _=>True) u x): Cu w0 w W' g l p' q' bs (⟨u,.slice none 0 0,x,[]⟩::ms) ns:=by
 have a':=a.keep hi hb hk;refine⟨a'.i,a'.b,a'.kk,a'.sz,a'.k,fun z hz=>?_,a'.n⟩
 rcases List.mem_cons.1 hz with rfl|hz
 ·exact⟨Kd.R_mono (Kd.R_lower h0 a.size) (fun k _ h=>by cases h),Kd.R_nil _ _ _ _ _⟩
 ·exact a'.r z hz
theorem Cu.set{b:Nat}{cs:Array Value}(A B:List (Nat×Array Value))(a:Cu w0 w W g l p q (A++(b,cs)::B) ms ns)(hA:∀ z∈A,z.1≠b)(hB:∀ z∈B,z.1≠b)(j:Nat)(u:Value): Cu w0 w (W.setCell ⟨b,j,none⟩ u) g l p q (A++(b,cs.setIfInBounds j u)::B) ms ns:=by
 have hm:(b,cs)∈A++(b,cs)::B:=List.mem_append_right _ (.head _);obtain⟨hk,hs⟩:=a.k (b,cs) hm
 have ht:∀ e,e∈45::k45.E→e≠62:=by decide
 have hn:∀ e,e∈3::(Kd.int .i64).E→e≠62:=by decide
 refine⟨a.i.far (p:=⟨b,j,none⟩) (a.far hm) u,cz (g:=b) a.b (Nat.le_trans a.sz hs),eJ (p:=⟨b,j,none⟩) a.kk hs u,a.sz,fun z hz=>?_,fun z hz=>⟨Kd.R_set (a.r z hz).1 hk ht j u,Kd.R_set (a.r z hz).2 hk ht j u⟩,fun z hz=>Kd.R_set (a.n z hz) hk hn j u⟩
 have old:∀ z,z∈A++(b,cs)::B→z.1≠b→(W.setCell ⟨b,j,none⟩ u).heap[z.1]? = some (.cells z.2 62 (0,0))∧w.heap.size≤z.1:=fun z hz hne=>⟨dB (p:=⟨b,j,none⟩) (a.k z hz).1 hne u,(a.k z hz).2⟩
 rcases List.mem_append.1 hz with hz|hz
 ·exact old z (List.mem_append_left _ hz) (hA z hz)
 · rcases List.mem_cons.1 hz with rfl | hz
   ·exact⟨iI hk j u,hs⟩
   ·exact old z (List.mem_append_right _ (.tail _ hz)) (hB z hz)
theorem Cu.put8{b:Nat}{z0 z1 z2 z3 z4 z5 z6 z7 a0 a1 a2 a3 a4 a5 a6 a7:Value}(A B:List (Nat×Array Value))(a:Cu w0 w W g l p q (A++(b,#[z0,z1,z2,z3,z4,z5,z6,z7])::B) ms ns)(hA:∀ z∈A,z.1≠b)(hB:∀ z∈B,z.1≠b):
 Cu w0 w ((((((((W.setCell ⟨b,0,none⟩ a0).setCell ⟨b,1,none⟩ a1).setCell ⟨b,2,none⟩ a2).setCell ⟨b,3,none⟩ a3).setCell ⟨b,4,none⟩ a4).setCell ⟨b,5,none⟩ a5).setCell ⟨b,6,none⟩ a6).setCell ⟨b,7,none⟩ a7) g l p q (A++(b,#[a0,a1,a2,a3,a4,a5,a6,a7])::B) ms ns:=by
 have hm:(b,#[z0,z1,z2,z3,z4,z5,z6,z7])∈A++(b,#[z0,z1,z2,z3,z4,z5,z6,z7])::B:=List.mem_append_right _ (.head _);obtain⟨hk,hs⟩:=a.k _ hm;have h0:=Nat.le_trans a.sz hs;have hg:=a.far hm
 refine⟨(((((((a.i.far (p:=⟨b,0,none⟩) hg a0).far (p:=⟨b,1,none⟩) hg a1).far (p:=⟨b,2,none⟩) hg a2).far (p:=⟨b,3,none⟩) hg a3).far (p:=⟨b,4,none⟩) hg a4).far (p:=⟨b,5,none⟩) hg a5).far (p:=⟨b,6,none⟩) hg a6).far (p:=⟨b,7,none⟩) hg a7,cz (cz (cz (cz (cz (cz (cz (cz a.b h0) h0) h0) h0) h0) h0) h0) h0,
  eJ (p:=⟨b,7,none⟩) (eJ (p:=⟨b,6,none⟩) (eJ (p:=⟨b,5,none⟩) (eJ (p:=⟨b,4,none⟩) (eJ (p:=⟨b,3,none⟩) (eJ (p:=⟨b,2,none⟩) (eJ (p:=⟨b,1,none⟩) (eJ (p:=⟨b,0,none⟩) a.kk hs a0) hs a1) hs a2) hs a3) hs a4) hs a5) hs a6) hs a7,a.sz,fun z hz=>?_,fun z hz=>⟨kE (a.r z hz).1 hk,kE (a.r z hz).2 hk⟩,fun z hz=>kE (a.n z hz) hk⟩
 rcases List.mem_append.1 hz with hz|hz
 ·exact⟨kw (hA z hz) (a.k z (List.mem_append_left _ hz)).1,(a.k z (List.mem_append_left _ hz)).2⟩
 · rcases List.mem_cons.1 hz with rfl | hz
   ·exact⟨fy hk,hs⟩
   ·exact⟨kw (hB z hz) (a.k z (List.mem_append_right _ (.tail _ hz))).1,(a.k z (List.mem_append_right _ (.tail _ hz))).2⟩
theorem Cu.sub{bs':List (Nat×Array Value)}{ms':List CV}{ns':List (Value×List Int)}(a:Cu w0 w W g l p q bs ms ns)(hb:∀ z∈bs',z∈bs)(hm:∀ z∈ms',z∈ms)(hn:∀ z∈ns',z∈ns): Cu w0 w W g l p q bs' ms' ns':=
 ⟨a.i,a.b,a.kk,a.sz,fun z hz=>a.k z (hb z hz),fun z hz=>a.r z (hm z hz),fun z hz=>a.n z (hn z hz)⟩
theorem ko{w:World}{base:Nat}{ok:Nat→Prop}: ∀ xs:List Int,br (Kd.M (Kd.int .i64) w base ok) 1 xs (xs.map (Value.int .i64))
 | []=>br.none _ _
 | x::xs=>br.one (show Kd.M (Kd.int .i64) _ _ _ x [.int .i64 x]from rfl) (ko xs)
theorem pg{α:Type}{a:α}{l:List α}(h:a∈l): ∀ z∈[a],z∈l:=fun z hz=>by rw[List.mem_singleton.1 hz];exact h
theorem pJ{α:Type}{a b:α}{l:List α}(h:a∈l)(h':b∈l): ∀ z∈[a,b],z∈l:=fun z hz=>by
 rcases List.mem_cons.1 hz with rfl|hz
 ·exact h
 ·rw[List.mem_singleton.1 hz];exact h'
theorem qa{α:Type}{l:List α}: ∀ z∈([]:List α),z∈l:=fun _ h=>nomatch h
theorem lR{b:Nat}: ∀ z∈([]:List (Nat×Array Value)),z.1≠b:=fun _ h=>nomatch h
theorem lP{b b':Nat}{cs:Array Value}(h:b'≠b): ∀ z∈[(b',cs)],z.1≠b:=fun z hz=>by rw[List.mem_singleton.1 hz];exact h
variable {m:Int} {k:Nat}
theorem pO(a:Cu w0 w W g l p q bs ms ns){x:Int}(h:aM.f l p q m=some (x,p',q')): Calls Tryz.prog 111 #[.pointer (some ⟨g,0,none⟩),.int .i64 m] W fun e W'=>e = .returned (.int .i64 x)∧Cu w0 w W' g l p' q' bs ms ns:=
 (aM.c g l p q m x p' q' w0 W a.i a.b h).mono fun e W' h=>⟨h.1,a.keep h.2.1 h.2.2.1 h.2.2.2⟩
theorem sD(a:Cu w0 w W g l p q bs ms ns){x:Bool}(h:bU.f l p q m=some (x,p',q')): Calls Tryz.prog 99 #[.pointer (some ⟨g,0,none⟩),.int .i64 m] W fun e W'=>e = .returned (.bool x)∧Cu w0 w W' g l p' q' bs ms ns:=
 (bU.c g l p q m x p' q' w0 W a.i a.b h).mono fun e W' h=>⟨h.1,a.keep h.2.1 h.2.2.1 h.2.2.2⟩
theorem si(a:Cu w0 w W g l p q bs ms ns){x:ByteArray}(h:bb.f k l p q=some (x,p',q')): Calls Tryz.prog 112 #[.pointer (some ⟨g,0,none⟩)] W fun e W'=>e = .returned (.string x)∧Cu w0 w W' g l p' q' bs ms ns:=
 (bb.c k g l p q x p' q' w0 W a.i a.b h).mono fun e W' h=>⟨h.1,a.keep h.2.1 h.2.2.1 h.2.2.2⟩
theorem lB{A:Option Addr}{c:Nat}{y:List Int}(a:Cu w0 w W g l p q bs ms ns)(hy:((.slice A y.length c:Value),y)∈ns){x:Int}(h:bL.f l p q y=some (x,p',q')): Calls Tryz.prog 114 #[.pointer (some ⟨g,0,none⟩),.slice A y.length c] W fun e W'=>e = .returned (.int .i64 x)∧Cu w0 w W' g l p' q' bs ms ns:=
 (bL.c g l p q A c y x p' q' w0 W a.i a.b (Kd.R_reads' (a.n _ hy)).2.2 (Kd.R_reads' (a.n _ hy)).2.1 (dW (a.i.own_ne (a.n _ hy) (by decide))) h).mono fun e W' h=>⟨h.1,a.keep h.2.1 h.2.2.1 h.2.2.2⟩
theorem nC(a:Cu w0 w W g l p q bs ms ns){x:List jT}(h:aH.f k l p q=some (x,p',q')): Calls Tryz.prog 168 #[.pointer (some ⟨g,0,none⟩)] W fun e W'=> ∃ A c,e = .returned (.slice A x.length c)∧Cu w0 w W' g l p' q' bs (⟨.slice A x.length c,.slice none 0 0,x,[]⟩::ms) ns:=
 (aH.c k g l p q x p' q' w0 W a.i a.b h).mono fun e W' h=>by
  obtain⟨v,rfl,h0,hi,hb,hk⟩:=h;obtain⟨A,c,rfl⟩:=Kd.R_slice h0;exact⟨A,c,rfl,a.row hi hb hk h0⟩
variable {p1 p4 p6 q1 q4 q6:Int} {p2 p3 q2 q3 b:Bool} {p5 q5:ByteArray} {x y x' y' z z':List jT}
theorem rV(a:Cu w0 w W g l p q bs ms ns)(h:dD.f k p1 p5 p4=some (q1,q2,q3,q4,q5,q6,x,y,b)): Calls Tryz.prog 166 #[.int .i64 p1,.string p5,.int .i64 p4] W fun e W'=> ∃ A6 c6 A7 c7,e = .returned (.tuple #[.agg #[.int .i64 q1,.bool q2,.bool q3,.int .i64 q4,.string q5,.int .i64 q6,.slice A6 x.length c6,.slice A7 y.length c7],.bool b])∧Cu w0 w W' g l p q bs (⟨.slice A6 x.length c6,.slice A7 y.length c7,x,y⟩::ms) ns:=
 (dD.c k p1 p5 p4 q1 q2 q3 q4 q5 q6 x y b W h).mono fun e W' h=>by
  obtain⟨u,v,rfl,h0,h1,hb⟩:=h;obtain⟨A6,c6,rfl⟩:=Kd.R_slice h0;obtain⟨A7,c7,rfl⟩:=Kd.R_slice h1;exact⟨A6,c6,A7,c7,rfl,a.rows hb h0 h1⟩
theorem Cu.rd{A6 A7:Option Addr}{c6 c7:Nat}(a:Cu w0 w W g l p q bs ms ns)(h:(⟨.slice A6 x.length c6,.slice A7 y.length c7,x,y⟩:CV)∈ms): (Kd.C k45 W A6 x.length x∧x.length≤c6)∧Kd.C k45 W A7 y.length y∧y.length≤c7:=
 ⟨⟨(Kd.R_reads' (a.r _ h).1).2.2,(Kd.R_reads' (a.r _ h).1).2.1⟩,(Kd.R_reads' (a.r _ h).2).2.2,(Kd.R_reads' (a.r _ h).2).2.1⟩
theorem rS{A6 A7 B6 B7:Option Addr}{c6 c7 d6 d7:Nat}(a:Cu w0 w W g l p q bs ms ns)(h1:(⟨.slice A6 x.length c6,.slice A7 y.length c7,x,y⟩:CV)∈ms)(h2:(⟨.slice B6 z.length d6,.slice none 0 0,z,[]⟩:CV)∈ms)(h3:(⟨.slice B7 z'.length d7,.slice none 0 0,z',[]⟩:CV)∈ms)(h:cq.f k p1 p2 p3 p4 p5 p6 x y m z z'=some (q1,q2,q3,q4,q5,q6,x',y',b)):
 Calls Tryz.prog 167 #[.agg #[.int .i64 p1,.bool p2,.bool p3,.int .i64 p4,.string p5,.int .i64 p6,.slice A6 x.length c6,.slice A7 y.length c7],.int .i64 m,.slice B6 z.length d6,.slice B7 z'.length d7] W fun e W'=> ∃ D6 e6 D7 e7,e = .returned (.tuple #[.agg #[.int .i64 q1,.bool q2,.bool q3,.int .i64 q4,.string q5,.int .i64 q6,.slice D6 x'.length e6,.slice D7 y'.length e7],.bool b])∧Cu w0 w W' g l p q bs (⟨.slice D6 x'.length e6,.slice D7 y'.length e7,x',y'⟩::ms) ns:=
 (cq.c k p1 p2 p3 p4 p5 p6 A6 c6 x A7 c7 y m B6 d6 z B7 d7 z' q1 q2 q3 q4 q5 q6 x' y' b W (a.rd h1).1.1 (a.rd h1).1.2 (a.rd h1).2.1 (a.rd h1).2.2 (Kd.R_reads' (a.r _ h2).1).2.2 (Kd.R_reads' (a.r _ h2).1).2.1 (Kd.R_reads' (a.r _ h3).1).2.2 (Kd.R_reads' (a.r _ h3).1).2.1 h).mono fun e W' h=>by
  obtain⟨u,v,rfl,h0,h1,hb⟩:=h;obtain⟨D6,e6,rfl⟩:=Kd.R_slice h0;obtain⟨D7,e7,rfl⟩:=Kd.R_slice h1;exact⟨D6,e6,D7,e7,rfl,a.rows hb h0 h1⟩
theorem mh{bM b2:Nat}{cs:Array Value}{u v z0 z1 z2 z3 z4 z5 z6 z7:Value}(a:Cu w0 w W g l p q [(bM,cs),(b2,#[z0,z1,z2,z3,z4,z5,z6,z7])] ms ns)(f:bM≠b2)(hm:(⟨u,v,x,y⟩:CV)∈ms)(r1:Int)(r2 r3:Bool)(r4:Int)(r5:ByteArray)(r6:Int):
 ∀ W',W'=((((((((W.setCell ⟨b2,0,none⟩ (.int .i64 r1)).setCell ⟨b2,1,none⟩ (.bool r2)).setCell ⟨b2,2,none⟩ (.bool r3)).setCell ⟨b2,3,none⟩ (.int .i64 r4)).setCell ⟨b2,4,none⟩ (.string r5)).setCell ⟨b2,5,none⟩ (.int .i64 r6)).setCell ⟨b2,6,none⟩ u).setCell ⟨b2,7,none⟩ v) →
 W'.heap[b2]? = some (.cells #[.int .i64 r1,.bool r2,.bool r3,.int .i64 r4,.string r5,.int .i64 r6,u,v] 62 (0,0))∧Kd.R k45 45 W' w.heap.size (fun k_=>some k_≠v.ownBlock) u x∧Kd.R k45 45 W' w.heap.size (fun k_=>some k_≠u.ownBlock) v y∧ak w0 W' g l p q∧Below w0.heap.size w0 W'∧aJ w W' g none:=by
 rintro W' rfl;have h:=Cu.put8 [(bM,cs)] [] a (lP f) lR (a0:=.int .i64 r1) (a1:=.bool r2) (a2:=.bool r3) (a3:=.int .i64 r4) (a4:=.string r5) (a5:=.int .i64 r6) (a6:=u) (a7:=v);exact⟨(h.k _ (.tail _ (.head _))).1,(h.r _ hm).1,(h.r _ hm).2,h.i,h.b,h.kk⟩
end
end Go.Proofs.YtiegkjimpclmaaaGreatDoor.P
namespace Go.Proofs.YtiegkjimpclmaaaGreatDoor.Pure
open Go.Proofs.YtiegkjimpclmaaaGreatDoor.P
set_option linter.unusedSectionVars false
section
variable (s:ByteArray) (hs:s.size≤2000)
include hs
theorem pw: ∀ (n a:Nat) (L:List ByteArray) (p:List Int) (le:Nat) (e:Int) (a0:Nat),le*10+(9-L.length)≤n→L.length≤9→p.length≤L.length→rD L→(e<0→a0≤a)→(0≤e→(a0:Int)<e∧e≤(s.size:Int))→(∀ x∈p,0≤x∧x<(s.size:Int)) →
 ∃ r r',Ev (fun k=>ah.l0 k s (a:Int) L p (le:Int) e) r∧Ev (fun k=>ac.l0 k s (a:Int) (L.map smB) p (le:Int) e) r'∧r.2.2.2=r'.2.2.2 ∧
  (r.2.2.2=true→r.1=r'.1∧r.2.1=r'.2.2.1∧r.2.2.1=r'.2.1∧(a0:Int)<r.2.1∧r.2.1≤(s.size:Int)∧r.2.2.1.length≤9∧∀ x∈r.2.2.1,0≤x∧x<(s.size:Int))
 | n,a,L,p,le,e,a0,hn,hL,hp,hI,he1,he2,hpr=>by
  have hLs:(L.map smB).length=L.length:=List.length_map ..
  by_cases ho:s.size≤a∨8<L.length
  ·exact⟨fd,eX,Ev.of (fun k=>(ah.mono_l k).1 _ _ _ _ _ _) (mq s hs 0 a L p le e ho),Ev.of (fun k=>(ac.mono_l k).1 _ _ _ _ _ _) (iz s hs 0 a _ p le e (by omega)),rfl,fun h=>by cases h⟩
  · have h1 : a < s.size := by omega
    have h2:L.length≤8:=by omega
    by_cases v0:ba s a=0
    · have hi := iO s hs 0 a (L.map smB) p le e h1 (by omega) v0
      refine⟨((gD (mkB (dF L))).1,dL e (a+1),p,(gD (mkB (dF L))).2),_,?_,Ev.of (fun k=>(ac.mono_l k).1 _ _ _ _ _ _) hi,by rw[lx L hI],fun _=>⟨by rw[lx L hI],rfl,rfl,?_,?_,by show p.length≤9;omega,hpr⟩⟩
      · refine Ev.step (f := fun k => (bi.f k L).bind fun t => (dw.f t).bind fun g0 => some (g0.1, dL e (a + 1), p, g0.2)) (fun k => ?_) (Ev.bind (nP L (fun x hx => by have := (hI x hx).2.1; omega) (by omega)) (Ev.congr (f := fun _ => some ((gD (mkB (dF L))).1, dL e (a + 1), p, (gD (mkB (dF L))).2)) (fun k => by unfold dw.f; rfl) (Ev.now _)))
        show ah.l0 (k+1) s (a:Int) L p (le:Int) e=_
        conv=>lhs;unfold ah.l0
        rw[if_pos (by omega),if_neg (by omega),if_pos (by omega),if_pos (by omega),dV,wN _ (by have:=ey s a;omega),v0,if_neg (by decide),if_pos (by rfl),d_ (by omega)];unfold dL
        by_cases he:e<0
        ·rw[if_pos he,if_pos he]
        ·rw[if_neg he,if_neg he]
      · show (a0 : Int) < dL e (a + 1)
        unfold dL
        split<;>omega
      · show dL e (a + 1) ≤ (s.size : Int)
        unfold dL
        split<;>omega
    · by_cases v1 : 192 ≤ ba s a
      · by_cases h3 : a + 1 < s.size
        · by_cases hle : ((eb s a : Nat) : Int) ≥ (le : Int)
          ·exact⟨fd,eX,Ev.of (fun k=>(ah.mono_l k).1 _ _ _ _ _ _) ((iH s hs 0 a L p le e h1 h2 v1 h3).trans (if_pos hle)),Ev.of (fun k=>(ac.mono_l k).1 _ _ _ _ _ _) ((fh s hs 0 a _ p le e h1 (by omega) v1 h3).trans (if_pos hle)),rfl,fun h=>by cases h⟩
          · obtain ⟨r, r', g1, g2, g3⟩ := pw (n - 10) (eb s a) L p (eb s a) (dL e (a + 2)) a0 (by omega) hL hp hI (by unfold dL; split <;> omega) (by unfold dL; split <;> omega) hpr
            exact⟨r,r',Ev.step (fun k=>(iH s hs k a L p le e h1 h2 v1 h3).trans (if_neg hle)) g1,Ev.step (fun k=>rfl) (Ev.step (g:=fun k=>ac.l0 (k+1) s (a:Int) (L.map smB) p (le:Int) e) (fun k=>(fh s hs k a _ p le e h1 (by omega) v1 h3).trans (if_neg hle)) g2),g3⟩
        ·exact⟨fd,eX,Ev.of (fun k=>(ah.mono_l k).1 _ _ _ _ _ _) (iJ s hs 0 a L p le e h1 h2 v1 (by omega)),Ev.of (fun k=>(ac.mono_l k).1 _ _ _ _ _ _) (fB s hs 0 a _ p le e h1 (by omega) v1 (by omega)),rfl,fun h=>by cases h⟩
      · have hlb : ∀ (g : s.size ≥ a + 1 + ba s a), (ew s a).length = ba s a := fun g => by unfold ew; rw [List.length_take, List.length_drop, ← aU]; omega
        by_cases h3:64≤ba s a∨s.size<a+1+ba s a
        ·exact⟨fd,eX,Ev.of (fun k=>(ah.mono_l k).1 _ _ _ _ _ _) (fD s hs 0 a L p le e h1 h2 (by omega) (by omega) (by omega)),Ev.of (fun k=>(ac.mono_l k).1 _ _ _ _ _ _) (fF s hs 0 a _ p le e h1 (by omega) (by omega) (by omega) h3),rfl,fun h=>by cases h⟩
        · have hlen := hlb (by omega)
          have himpl:∀ r,Ev (fun k=>ac.l0 k s ((a+1+ba s a:Nat):Int) (L.map smB ++ [mkB ((ew s a).map eq)]) (plc e p a) (le:Int) e) r→Ev (fun k=>ac.l0 k s (a:Int) (L.map smB) p (le:Int) e) r:=fun r g2=>
           Ev.step (fun k=>rfl) (Ev.step (fun k=>rfl) (Ev.step (g:=fun k=>ac.l0 (k+2) s (a:Int) (L.map smB) p (le:Int) e) (fun k=>gH s hs k a _ p le e h1 (by omega) (by omega) (by omega) (by omega) (by omega)) g2))
          have hpl:(plc e p a).length≤L.length+1:=by
           unfold plc
           split
           ·rw[List.length_append,List.length_singleton];omega
           ·omega
          have hplr:∀ x∈plc e p a,0≤x∧x<(s.size:Int):=by
           unfold plc
           split
           · intro x hx
             rcases List.mem_append.1 hx with hx|hx
             ·exact hpr x hx
             ·rw[List.mem_singleton.1 hx];omega
           ·exact hpr
          have doom:bH ((ew s a).map eq)=false→∃ r,Ev (fun k=>ac.l0 k s (a:Int) (L.map smB) p (le:Int) e) r∧r.2.2.2=false:=by
           intro hb;obtain⟨r,g1,g2⟩:=lD s hs (n-1) (a+1+ba s a) (L.map smB ++ [mkB ((ew s a).map eq)]) (plc e p a) le e (by simp;omega) (by simp;omega) (by simp;omega) ⟨_,List.mem_append_right _ List.mem_cons_self,by rw[cn];exact hb⟩;exact⟨r,himpl r g1,g2⟩
          by_cases h20:20<ba s a
          · obtain⟨r',g1,g2⟩:=doom (by
             rw[Bool.eq_false_iff];intro e1;have:=fM e1;rw[List.length_map]at this
             omega)
            exact⟨fd,r',Ev.of (fun k=>(ah.mono_l k).1 _ _ _ _ _ _) (fD s hs 0 a L p le e h1 h2 (by omega) (by omega) (.inl h20)),g1,by rw[g2];rfl,fun h=>by cases h⟩
          · rcases mz s hs a L p le e h1 h2 (by omega) (by omega) (by omega) (by omega) with ⟨f1, y, hy, rfl⟩ | ⟨f1, f2⟩
            · obtain⟨r',g1,g2⟩:=doom (by
               rw[Bool.eq_false_iff];intro e1;unfold bH at e1;simp only[Bool.or_eq_true,Bool.and_eq_true,beq_iff_eq,List.all_eq_true]at e1;have hm:(46:UInt8)∈(ew s a).map eq:=List.mem_map.2 ⟨46,hy,(nR 46).2 rfl⟩
               rcases e1 with e1|e1
               · rw [e1] at hm
                 simp at hm
               ·exact absurd (e1.2 46 hm) (by decide))
              exact⟨fd,r',f1,g1,by rw[g2];rfl,fun h=>by cases h⟩
            · obtain⟨r,r',g1,g2,g3⟩:=pw (n-1) (a+1+ba s a) (L ++ [mkB (ew s a)]) (plc e p a) le e a0 (by simp;omega) (by simp;omega) (by simp;omega) (by
               intro x hx
               rcases List.mem_append.1 hx with hx|hx
               ·exact hI x hx
               · obtain rfl := List.mem_singleton.1 hx
                 rw[cF,cn]
                 exact⟨by omega,by omega,f1⟩) (by omega) he2 hplr
              refine⟨r,r',f2 r g1,himpl r' ?_,g3⟩;rw[List.map_append]at g2
              have e1:[mkB (ew s a)].map smB=[mkB ((ew s a).map eq)]:=by simp[smB,cn]
              rw[e1]at g2;exact g2
 termination_by n=>n
 decreasing_by all_goals omega
theorem mS(a:Nat)(ha:a≤s.size): ∃ r r',Ev (fun k=>ah.f k s (a:Int)) r∧Ev (fun k=>ac.f k s (a:Int)) r'∧r.2.2.2=r'.2.2.2 ∧
 (r.2.2.2=true→r.1=r'.1∧r.2.1=r'.2.2.1∧r.2.2.1=r'.2.1∧(a:Int)<r.2.1∧r.2.1≤(s.size:Int)∧r.2.2.1.length≤9∧∀ x∈r.2.2.1,0≤x∧x<(s.size:Int)):=
 pw s hs (a*10+9) a [] [] a (-1) a (by simp) (by simp) (by simp) (fun x hx=>by cases hx) (fun _=>Nat.le_refl _) (fun h=>by omega) (fun x hx=>by cases hx)
end
end Go.Proofs.YtiegkjimpclmaaaGreatDoor.Pure
namespace Go.Proofs.YtiegkjimpclmaaaGreatDoor.Pure
open Go.Proofs.YtiegkjimpclmaaaGreatDoor.P
def jV(a b:Int): Int:=if a<b then -1 else(if b<a then 1 else 0)
theorem qT(a b:Int): dO.f a b=some (jV a b):=by
 unfold dO.f ct.f jV;simp only[bne_self_eq_false,Option.bind_some,Bool.false_eq_true,if_false]
 by_cases h:a<b
 ·rw[if_pos h,if_pos h]
 · rw [if_neg h, if_neg h]
   by_cases h2:b<a
   ·rw[if_pos h2,if_pos h2]
   ·rw[if_neg h2,if_neg h2]
def or2(a b:Int): Int:=if a=0 then b else a
theorem rv(a b:Int): Ev (fun k=>bN.f k [a,b]) (or2 a b):=by
 refine Ev.of (fun k=>bN.m _ _) (k:=3) ?_
 show bN.f 3 [a,b]=_;unfold or2
 by_cases h:a=0
 · by_cases h2 : b = 0
   ·simp[bN.f,bN.l0,rd,wrap64,h,h2]
   ·simp[bN.f,bN.l0,rd,wrap64,h,h2]
 ·simp[bN.f,bN.l0,rd,wrap64,h]
theorem oa: ∀ x y:List UInt8,Lib.compareBytes x y=if x=y then 0 else(if Op.bytesLess x y=true then -1 else 1)
 | [],[]=>by simp[Lib.compareBytes]
 | [],_::_=>by simp[Lib.compareBytes,Op.bytesLess]
 | _::_,[]=>by simp[Lib.compareBytes,Op.bytesLess]
 | a::x,b::y=>by
  have ih:=oa x y;unfold Lib.compareBytes Op.bytesLess
  by_cases h1:a<b
  · have h3 : ¬ a = b := by rintro rfl; rw [UInt8.lt_iff_toNat_lt] at h1; omega
    simp[h1,h3]
  · by_cases h2 : b < a
    · have h3 : ¬ a = b := by rintro rfl; rw [UInt8.lt_iff_toNat_lt] at h2; omega
      simp[h1,h2,h3]
    · have h3 : a = b := by rw [UInt8.lt_iff_toNat_lt] at h1 h2; apply UInt8.toNat_inj.1; omega
      subst h3;simp[h1,ih]
def sA(a:List UInt8)(b c:Int)(x:List UInt8)(a':List UInt8)(b' c':Int)(x':List UInt8): Int:=or2 (or2 (lE a a') (jV b b')) (or2 (Lib.compareBytes x x') (jV c c'))
theorem iq(b:Int)(d:ByteArray)(a:ByteArray)(c:Int)(ha:a.size≤1048576)(hd:d.size≤1048576)(h:Ev (fun k=>bW.f k a b c d) true): ∃ x:ByteArray,Ev (fun k=>ag.f k b d) (x,true)∧Ev (fun k=>ap.f k b d) (x,true):=by
 obtain⟨r,q,r1,r2,q1,q2,hr,hs⟩:=fj a b c d ha hd;have e:=Ev.unique h r2;subst e;have hr:=hr.symm;rw[Bool.and_eq_true]at hr;obtain⟨x,y⟩:=q;obtain rfl:y=true:=hr.1;exact⟨x,q1,q2⟩
theorem qz(p:Bool): dI.f p=some (if p=true then -1 else 1):=by
 unfold dI.f
 cases p<;>rfl
theorem nG{a b:Int}(h:¬ a=b): jV a b=if decide (a<b)=true then -1 else 1:=by
 unfold jV
 by_cases h1:a<b
 ·rw[if_pos h1,if_pos (decide_eq_true h1)]
 ·rw[if_neg h1,if_pos (by omega),if_neg (by simpa using h1)]
theorem lw(a:Int): jV a a=0:=by
 unfold jV;rw[if_neg (by omega),if_neg (by omega)]
theorem mV(a:ByteArray)(b c:Int)(d:ByteArray)(a':ByteArray)(b' c':Int)(d' x x':ByteArray)(ha:a.size≤1048576)(ha':a'.size≤1048576)(ga:cO a.data.toList=true)(ga':cO a'.data.toList=true)(hx:Ev (fun k=>ag.f k b d) (x,true))(hx':Ev (fun k=>ag.f k b' d') (x',true)):
 Ev (fun k=>dl.f k a b c d a' b' c' d') (sA a.data.toList b c x.data.toList a'.data.toList b' c' x'.data.toList):=by
 refine Ev.congr (fun k=>rfl) (Ev.bind (lV a a' ha ha' ga ga') ?_);unfold sA
 by_cases h0:lE a.data.toList a'.data.toList=0
 · simp only [if_pos h0]
   refine Ev.bind hx (Ev.bind hx' ?_);simp only[qz,Option.bind_some];rw[h0]
   by_cases h1:b=b'
   · subst h1
     simp only[if_true];rw[lw,oa,Lib.toList_data,Lib.toList_data]
     by_cases h2:x.data.toList=x'.data.toList
     · simp only [if_pos h2]
       by_cases h3:c=c'
       · subst h3
         simp only[if_true];rw[lw];exact Ev.now _
       · simp only [if_neg h3]
         rw[nG h3];exact Ev.now _
     · simp only [if_neg h2]
       by_cases h4:Op.bytesLess x.data.toList x'.data.toList=true
       ·simp only[if_pos h4];exact Ev.now _
       ·simp only[if_neg h4];exact Ev.now _
   · simp only [if_neg h1]
     rw[nG h1]
     by_cases h4:decide (b<b')=true
     ·simp only[if_pos h4];exact Ev.now _
     ·simp only[if_neg h4];exact Ev.now _
 · simp only [if_neg h0]
   have e:∀ y z:Int,or2 (or2 (lE a.data.toList a'.data.toList) y) z=lE a.data.toList a'.data.toList:=fun y z=>by
    unfold or2;rw[if_neg h0,if_neg h0]
   rw[e];exact Ev.now _
abbrev sK:=S91
abbrev da:=S45
def conv(x:sK): da:=⟨x.f0,x.f1,x.f2,x.f3⟩
theorem rdI(l:List da)(i:Nat)(h:i<l.length): ae l (i:Int)=l[i]:=by
 unfold ae;rw[Int.toNat_natCast,List.getD_eq_getElem?_getD,List.getElem?_eq_getElem h,Option.getD_some]
def dG(x:ByteArray): Prop:=x.size≤1048576
end Go.Proofs.YtiegkjimpclmaaaGreatDoor.Pure
namespace Go.Proofs.YtiegkjimpclmaaaGreatDoor.P
attribute [local go_sem] cG cD c_ cZ ci ch cE cH
def cV.l0: Nat→ByteArray→List ByteArray→Int→Int→Option (ByteArray×Bool)
 | 0,_,_,_,_=>none
 | k+1,x4,x7,x8,x9=>if x9<x8 then(if 0≤x9 then(if x9<(x7.length:Int)then((bD.f k x4 (bn ByteArray.empty x7 x9)).bind fun g0=>(if(g0.size:Int)>600 then(some ((⟨#[]⟩:ByteArray),false))else(cV.l0 k g0 x7 x8 (wrap64 (x9+1)))))else(none))else(none))else(some (x4,true))
def cV.f(k:Nat)(l0:List ByteArray): Option (ByteArray×Bool):=cV.l0 k (⟨#[]⟩:ByteArray) l0 (l0.length:Int) 0
theorem cV.c(k:Nat)(A0:Option Addr)(c0:Nat)(l0:List ByteArray)(r1:ByteArray)(r2:Bool)(w:World)(hr0:Kd.C Kd.string w A0 l0.length l0)(hc0:l0.length≤c0)(h:cV.f k l0=some (r1,r2)):
 Calls Tryz.prog 163 #[.slice A0 l0.length c0] w fun e w'=>e = .returned (.tuple #[.string r1,.bool r2])∧Below w.heap.size w w':=by
 have HR0:=a0_ hr0;have HC0:=a0_ hc0;clear hr0 hc0;have HB:=a0_ (Below.refl w.heap.size w);have H:=h;clear h;unfold cV.f at H;have H':=a0_ H;clear H;go_enter Tryz.func163,Tryz.ntmps163;go_wp2;go_loopg [4,9] k (fun kq v4 v9 w'=> ∃ (x4_1:ByteArray) (x9_1:Int),v4 = .string x4_1∧v9 = .int .i64 x9_1∧ab (cV.l0 kq x4_1 l0 (l0.length:Int) x9_1=some (r1,r2))∧ab (kq≤k)∧ab (Below w.heap.size w w'))
 case atStart=>exact⟨((⟨#[]⟩:ByteArray)),(0),rs_,rs_,H',⟨Nat.le_refl _⟩,⟨ay⟩⟩
 case round=>
  clear H';obtain⟨x4_1,x9_1,rfl,rfl,HA,HK1,HB⟩:=hrel
  cases gk with
  | zero=>exact absurd HA.out (by simp[cV.l0])
  | succ k1=>
   have H:=HA.out;clear HA;simp only[cV.l0]at H
   by_cases c2:x9_1<(l0.length:Int)
   case neg=>
    rw[if_neg c2]at H;have c2b0:=decide_eq_false c2;clear c2;simp only[Option.some.injEq,Prod.mk.injEq]at H;obtain⟨rfl,rfl⟩:=H;go_wp2;go_ret2;exact⟨rr_,ay⟩
   rw[if_pos c2]at H;have c2b0:=decide_eq_true c2;clear c2
   by_cases c3:0≤x9_1
   case neg=>
    rw[if_neg c3]at H;exact absurd H (by simp)
   rw[if_pos c3]at H;have c3b0:=decide_eq_true c3;clear c3
   by_cases c4:x9_1<(l0.length:Int)
   case neg=>
    rw[if_neg c4]at H;exact absurd H (by simp)
   rw[if_pos c4]at H;have c4b0:=decide_eq_true c4;clear c4;obtain⟨g1,A5,H⟩:=ob_ H
   by_cases c6:(g1.size:Int)>600
   case pos=>
    rw[if_pos c6]at H;have c6b0:=decide_eq_true c6;have c6b1:decide (600<g1.size)=true:=decide_eq_true (by omega);clear c6;simp only[Option.some.injEq,Prod.mk.injEq]at H;obtain⟨rfl,rfl⟩:=H;have g2:=t0_ (x9_1);have g3:=tl_ (x9_1) (l0.length);obtain⟨g5,g4,g0⟩:=Kd.at_string HR0.out x9_1 (of_eq_true g2) (of_eq_true g3);cases g4;replace g0:=(HB.out.cell (World.block_lt_of_cell? w _ g0)).trans g0;go_wp2_with (first|((with_reducible refine gt_ 199 rfl ?_);refine gs_ 15 Tryz.func199 #[.string x4_1,.string (bn ByteArray.empty l0 x9_1)] ?_;(with_reducible refine(bD.c k1 x4_1 (bn ByteArray.empty l0 x9_1) g1 _ A5.out).mono ?_);rintro e w7 ⟨rfl,hb⟩;refine⟨_,rfl,?_⟩;replace HB:=a0_ (aa ay hb);clear hb));go_ret2;exact⟨rr_,ay⟩
   rw[if_neg c6]at H;have c6b0:=decide_eq_false c6;have c6b1:decide (600<g1.size)=false:=decide_eq_false (by omega);clear c6;have H':=a0_ H;clear H;have g2:=t0_ (x9_1);have g3:=tl_ (x9_1) (l0.length);obtain⟨g5,g4,g0⟩:=Kd.at_string HR0.out x9_1 (of_eq_true g2) (of_eq_true g3);cases g4;replace g0:=(HB.out.cell (World.block_lt_of_cell? w _ g0)).trans g0;go_wp2_with (first|((with_reducible refine gt_ 199 rfl ?_);refine gs_ 15 Tryz.func199 #[.string x4_1,.string (bn ByteArray.empty l0 x9_1)] ?_;(with_reducible refine(bD.c k1 x4_1 (bn ByteArray.empty l0 x9_1) g1 _ A5.out).mono ?_);rintro e w8 ⟨rfl,hb⟩;refine⟨_,rfl,?_⟩;replace HB:=a0_ (aa ay hb);clear hb));go_roundg k1
   case measure=>have:=HK1.out;omega
   case rel=>exact⟨(g1),(wrap64 (x9_1+1)),rs_,rs_,H',jl_ HK1,⟨ay⟩⟩
end Go.Proofs.YtiegkjimpclmaaaGreatDoor.P
