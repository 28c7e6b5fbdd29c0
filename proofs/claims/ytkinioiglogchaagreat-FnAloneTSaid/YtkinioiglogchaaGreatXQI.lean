import Derived.Test.YtkinioiglogchaaGreatXQH
set_option linter.unusedSectionVars false
noncomputable section
namespace Go.Gv
variable{i n s u w:Int}{L:List KV}{l:List aN}{k:List bR}{e t:Table}{j:aI}
inductive Rn:Table->Table->Prop
 |refl (t:Table):Rn t t
 |step {t e:Table} {w:Int}:eO w->Rn (aY t w) e->Rn t e
theorem Rn.trans{a b c:Table}(h:Rn a b)(k:Rn b c):Rn a c:=by
 induction h with
 |refl=>exact k
 |step hw _ ih=>exact .step hw (ih k)
theorem aR9:∀(l:List Int) (t:Table),Rn t (K9 t l)
 |[],t=>.refl t
 |p::l,t=>by
  have:=aR9 l (VQ t p);show Rn t (K9 (VQ t p) l);unfold VQ at this ⊢;split at this
  ·rw[aO (by assumption)];exact .step (by assumption) this
  grind
theorem aYQ:∀(n k:Nat) (t:Table),Rn t (SM n k t)
 |0,_,t=>.refl t
 |n + 1,k,t=>by
  unfold SM;split
  ·exact .refl t
  ·exact .step (aI5 k) (aYQ n (k+1) _)
def wU(e:Table)(s:Int):Bool:=e.Log.any λx=>x.Kind == 3 && x.aG == s && x.Code == 0
theorem aDV:wU e s=true↔∃x∈e.Log,x.Kind=3/\x.aG=s/\x.Code=0:=by simp[wU,and_assoc]
theorem aYR(h:∀x∈e.Log,x.Kind=3->x.aG=s->x.Code≠0):wU e s=false:=by grind[aDV]
theorem aVV(t:Table)(w:Int):∃m,(aY t w).Log=t.Log++m:=by
 unfold aY;split
 ·exact⟨_,rfl⟩
 ·split
  ·simp
  ·exact⟨_,rfl⟩
theorem Rn.log(h:Rn t e):∃m,e.Log=t.Log++m:=by
 induction h with
 |refl=>simp
 |step hw _ ih=>
  obtain⟨m,hm⟩:=ih;obtain⟨a,ha⟩:=aVV _ _;exact⟨a++m,by rw[hm,ha,o6]⟩
theorem aVW{b:aA}(h:16<=j.Pc/\j.Pc<=18):(dX b k w j).j.Code=j.Code:=by grind[dX,wR,wT]
theorem aSA{b:aA}(h:8<=j.Pc/\j.Pc<=18)(hp:j.Pc≠16/\j.Pc≠17)(hc:j.Code=0):((dX b k w j).j.Code=7/\j.Pc=8\/(dX b k w j).j.Code=1)\/(dX b k w j).j.Code=0/\(if j.Pc=8 then 8 else 9)<=(dX b k w j).j.Pc/\(dX b k w j).j.Pc<=19:=by
 rcases(by omega:j.Pc=8\/(9<=j.Pc/\j.Pc<=13)\/j.Pc=14\/j.Pc=15\/j.Pc=18) with p|p|p|p|p
 ·grind[dX,GU,nZ]
 ·have e:(dX b k w j).j=(jH b k j).2.2:=by unfold dX;grind
  grind[jH,I1,J3,nZ]
 ·grind[dX,wR,G4]
 ·have e:(dX b k w j).j=(wS b w j).2:=by grind[dX]
  grind[wS,G4]
 grind[dX]
section
variable {n:Int} {t:Table} (h:Bz n t)
include h
theorem Bz.ne{v:Int}(hv:eO v)(hw:eO w)(b1:(aD t v).bO=true)(b2:(aD t w).bO=true)(e:(aD t v).aG=(aD t w).aG):v=w:=Classical.byContradiction λq=>h.lg.ne v w hv hw q b1 b2 e
theorem Bz.tw(hw:eO w)(hB:(aD t w).bO=true):(0<=(aD t w).Pc/\(aD t w).Pc<=21)/\((aD t w).Code=0/\(aD t w).Pc≠16/\(aD t w).Pc≠17\/((aD t w).Code=3\/(aD t w).Code=6\/(aD t w).Code=7)/\16<=(aD t w).Pc/\(aD t w).Pc<=19):=by obtain⟨_,q,hs⟩:=h.pl;obtain⟨c,sv⟩:=hs.sv;exact⟨(sv.tw w hw hB).pc,(sv.tw w hw hB).cd⟩
theorem Bz.lk(hw:eO w):YG t.aR w (aD t w):=by obtain⟨_,q,hs⟩:=h.pl;exact hs.lk w hw
theorem nD(hw:eO w)(hB:(aD t w).bO=true):aY t w=yL t w (dX t.aA t.aR w (aD t w))/\∀v,eO v->aD (aY t w) v=zS (aD t) w (dX t.aA t.aR w (aD t w)).j v:=by
 have e:aY t w=yL t w (dX t.aA t.aR w (aD t w)):=by simp_all[aY]
 exact⟨e,λv hv=>by rw[e];exact PG h.v.yO.1 hw rfl hv⟩
theorem yP(hw:eO w)(hB:(aD t w).bO≠true):aD t w=cG/\(aY t w=t\/∃x∈mF t w,aY t w=qQ t w x/\∀v,eO v->aD (aY t w) v=zS (aD t) w (gY x (t.aG+1)) v):=by
 refine⟨(h.v.yO.2 _ (zR h.v.yO.1 hw)).resolve_right λj=>hB j.busy,?_⟩;by_cases hq:(mF t w).length=0\/t.aG=1000000
 ·simp_all[aY]
 ·right;have e:aY t w=qQ t w ((mF t w).getD 0 ⟨false,[]⟩):=by simp_all[aY]
  refine⟨_,?_,e,λv hv=>by rw[e];exact PG h.v.yO.1 hw rfl hv⟩;grind
end
def a4D(t:Table)(s:Int):Prop:=s<=t.aG/\(∀x∈t.Log,x.Kind=3->x.aG=s->x.Code≠0)/\∀w,eO w->(aD t w).bO=true->(aD t w).aG=s->(aD t w).Code≠0
theorem a4D.step(h:Bz n t)(hw:eO w)(k:a4D t s):a4D (aY t w) s:=by
 obtain⟨k1,k2,k3⟩:=k;by_cases hB:(aD t w).bO=true
 ·obtain⟨e,ej⟩:=nD h hw hB;obtain⟨hpc,cd⟩:=h.tw hw hB;have dk:=uH t.aA t.aR w (aD t w) hpc;refine⟨by rw[e];exact k1,λx hx kx ex=>?_,λv hv hb es=>?_⟩
  ·rw[e] at hx;rcases dD.1 hx with hx|hx
   ·grind
   ·rcases dk with ⟨_,_,_,q|q⟩|⟨_,_,q⟩<;>rw[q] at hx
    ·cases hx
    ·grind
    ·rw[jJ.1 hx] at ex ⊢;exact k3 w hw hB ex
  ·rw[ej v hv] at hb es ⊢;by_cases z:v=w
   ·rw[z,gZ] at hb es ⊢;rcases dk with ⟨s1,_,_,_⟩|⟨_,q,_⟩
    ·have:=k3 w hw hB (s1.symm.trans es);rw[aVW]
     ·exact this
     ·refine⟨aa,?_⟩;have:=uH t.aA t.aR w (aD t w) hpc;by_cases p:(aD t w).Pc=19
      ·have e2:(dX t.aA t.aR w (aD t w)).j=cG:=by simp_all[dX]
       rw[e2] at hb;cases hb
      ·omega
    ·rw[q] at hb;cases hb
   grind[qS]
 ·obtain⟨hn,e|⟨x,_,e,ej⟩⟩:=yP h hw hB
  ·rw[e];exact⟨k1,k2,k3⟩
  ·refine⟨by rw[e];show s<=t.aG+1;omega,λy hy ky ey=>?_,λv hv hb es=>?_⟩
   ·rw[e] at hy;rcases dD.1 hy with hy|hy
    ·exact k2 y hy ky ey
    ·rw[jJ.1 hy] at ky;cases ky
   ·rw[ej v hv] at hb es ⊢;by_cases z:v=w
    ·rw[z,gZ] at es;have:t.aG+1=s:=es;omega
    grind[qS]
theorem a4D.run(r:Rn t e)(h:Bz n t)(k:a4D t s):wU e s=false:=by
 induction r with
 |refl=>exact aYR k.2.1
 |step hw _ ih=>exact ih (h.step hw) (k.step h hw)
theorem a1N(r:Rn t e)(h:Bz n t)(hw:eO w)(hB:(aD t w).bO=true)(hc:(aD t w).Code≠0):wU e (aD t w).aG=false:=
 a4D.run r h ⟨h.lg.jle w hw hB,λx hx k q=>absurd q ((h.lg.job w hw hB).tell x hx k),λv hv b q=>by rw[h.ne hv hw b hB q];exact hc⟩
theorem bE7(r:Rn t e)(he:∀v,eO v->(aD e v).bO=false)(h:Bz n t)(k:(∃x∈t.Log,x.Kind=3/\x.aG=s/\x.Code=0)\/∃w,eO w/\(aD t w).bO=true/\(aD t w).aG=s/\(aD t w).Code=0/\9<=(aD t w).Pc/\(aD t w).Pc<=19):wU e s=true:=by
 induction r with
 |refl=>
  grind[aDV]
 |step hu _ ih=>
  rename_i t e u _;refine ih he (h.step hu) ?_;rcases k with ⟨x,m,k⟩|⟨w,hw,hB,es,hc,hp⟩
  ·obtain⟨l,el⟩:=aVV t u;grind
  ·by_cases z:w=u
   ·subst z;obtain⟨e1,ej⟩:=nD h hw hB;obtain⟨hpc,cd⟩:=h.tw hw hB;have dk:=uH t.aA t.aR w (aD t w) hpc;by_cases p:(aD t w).Pc=19
    ·left;rcases dk with ⟨_,q,_⟩|⟨_,_,q⟩
     ·exfalso;have e2:(dX t.aA t.aR w (aD t w)).j=cG:=by unfold dX;simp only[p];rfl
      rw[e2,hB] at q;cases q
     ·refine⟨tlE w (aD t w),by rw[e1];exact aBP _ (by rw[q];simp),rfl,es,hc⟩
    ·right;rcases dk with ⟨s1,s2,_⟩|⟨q,_⟩
     ·have hb':(aD (aY t w) w).bO=true:=by rw[ej w hw,gZ,s2];exact hB
      have cd':=((h.step hw).tw hw hb').2;refine⟨w,hw,hb',by rw[ej w hw,gZ,s1];exact es,?_⟩;rw[ej w hw,gZ] at cd' ⊢;rcases aSA (b:=t.aA) (k:=t.aR) (w:=w) (j:=aD t w) aa aa hc with c|⟨c1,c2,c3⟩
      ·omega
      ·rw[gT] at c2;exact⟨c1,c2,c3⟩
     ·omega
   ·right;have ej:aD (aY t u) w=aD t w:=by
     by_cases hBu:(aD t u).bO=true
     ·rw[(nD h hu hBu).2 w hw,qS _ _ z]
     ·obtain⟨_,q|⟨x,_,_,q⟩⟩:=yP h hu hBu
      ·rw[q]
      ·rw[q w hw,qS _ _ z]
    grind
def Holds(F:Int->Bool)(t:Table)(v i:Int):Prop:=(dL t.aR i).dU=v+1/\F (aD t v).aG=true/\8<=(aD t v).Pc
def Bad(F:Int->Bool)(t:Table)(w:Int):Prop:=∃s∈(aD t w).Reads.drop (aD t w).K.toNat,s.eB<(dL t.aR s.bR).eB\/∃v,eO v/\v≠w/\Holds F t v s.bR
theorem zT(h:Bz n t){v:Int}(hv:eO v)(hi:nY i)(hl:(dL t.aR i).dU=v+1):(aD t v).bO=true/\i∈(aD t v).bD/\(7<=(aD t v).Pc/\(aD t v).Pc<=14\/(aD t v).Pc=16):=by
 have hm:=((h.lk hv).iff i hi).2 hl;refine⟨?_,hm,(h.lk hv).pc (List.ne_nil_of_mem hm)⟩;rcases h.v.yO.2 _ (zR h.v.yO.1 hv) with e|e
 ·rw[e] at hm;cases hm
 ·exact e.busy
theorem Holds.step(h:Bz n t)(hu:eO u)(r:Rn (aY t u) e){v:Int}(hv:eO v)(hi:nY i)(k:Holds (wU e) t v i):Holds (wU e) (aY t u) v i\/u=v/\(aD t v).Pc=14/\(dL (aY t u).aR i).eB=(dL t.aR i).eB+1/\(dL (aY t u).aR i).dU=0:=by
 obtain⟨k1,k2,k3⟩:=k;obtain⟨hB,hm,hp⟩:=zT h hv hi k1;obtain⟨hpc,cd⟩:=h.tw hv hB;have hc:(aD t v).Code=0:=Classical.byContradiction λq=>by have:=a1N (.step hu r) h hv hB q;grind
 by_cases z:v=u
 ·subst z;obtain⟨e1,ej⟩:=nD h hv hB;have bk:=aMQ (b:=t.aA) h.v.bk.1 (h.jb hv hB) (h.lk hv) hi;have lv:=h.lv i hi aa;have le:=bAI h.v hi;rcases bk with ⟨b1,b2|b2|b2⟩|⟨p,b1,b2,b3⟩
  ·left;rcases uH t.aA t.aR v (aD t v) hpc with ⟨s1,s2,_⟩|⟨q,_⟩
   ·unfold Holds;rw[ej v hv,gZ,s1];refine⟨by rw[e1];exact b2.trans k1,k2,?_⟩;have hb':(aD (aY t v) v).bO=true:=by grind[gZ]
    rcases aSA (b:=t.aA) (k:=t.aR) (w:=v) (j:=aD t v) aa aa hc with c|⟨c1,c2,c3⟩
    ·exfalso;have:=a1N r (h.step hv) hv hb' (by grind[gZ]);grind[gZ]
    omega
   ·omega
  ·omega
  ·omega
  ·right;rw[e1];refine⟨rfl,p,?_,b2⟩;show(dL (dX t.aA t.aR v (aD t v)).k i).eB=_;rw[b3,gT]
 ·left;unfold Holds;by_cases hBu:(aD t u).bO=true
  ·obtain⟨e1,ej⟩:=nD h hu hBu;have bk:=aMQ (b:=t.aA) h.v.bk.1 (h.jb hu hBu) (h.lk hu) hi;rw[ej v hv,qS _ _ z];refine⟨?_,k2,k3⟩;rw[e1];show(dL (dX t.aA t.aR u (aD t u)).k i).dU=_;unfold eO at hv hu;rcases bk with ⟨b1,b2|b2|b2⟩|b
   ·rw[b2];exact k1
   ·omega
   ·omega
   ·omega
  ·obtain⟨_,q|⟨x,_,q1,q⟩⟩:=yP h hu hBu
   ·grind
   ·rw[q v hv,qS _ _ z,q1];exact⟨k1,k2,k3⟩
theorem aSB(h:Bz n t)(hu:eO u)(hi:nY i):(dL t.aR i).eB<=(dL (aY t u).aR i).eB:=by
 by_cases hBu:(aD t u).bO=true
 ·rw[(nD h hu hBu).1];exact(aMQ (b:=t.aA) h.v.bk.1 (h.jb hu hBu) (h.lk hu) hi).le (bAI h.v hi)
 ·obtain⟨_,q|⟨x,_,q1,q⟩⟩:=yP h hu hBu
  ·grind
  ·rw[q1];exact I3 _
theorem bN3(r:Rn t e)(hw:eO w)(h:Bz n t)(hB:(aD t w).bO=true)(hp:(aD t w).Pc=8)(k:Bad (wU e) t w):wU e (aD t w).aG=false:=by
 induction r with
 |refl=>exact aYR λx hx k q=>absurd q ((h.lg.job w hw hB).tell x hx k)
 |step hu r ih=>
  rename_i t e u;obtain⟨s,hs,hk⟩:=k;have hb:nY s.bR:=(h.jb hw hB).reads.1 s (QQ hs);have hk':s.eB<(dL (aY t u).aR s.bR).eB\/∃v,eO v/\v≠w/\Holds (wU e) (aY t u) v s.bR:=by
   rcases hk with k|⟨v,hv,hn,k⟩
   ·have:=aSB h hu hb;left;omega
   ·rcases k.step h hu r hv hb with q|⟨_,_,q,_⟩
    ·grind
    ·have:=h.rv w hw s (QQ hs);left;omega
  by_cases z:w=u
  ·subst z;obtain⟨e1,ej⟩:=nD h hw hB;have e2:(dX t.aA t.aR w (aD t w)).j=GU t.aR w (aD t w):=by grind[dX]
   have ew:aD (aY t w) w=GU t.aR w (aD t w):=by grind[gZ]
   have hk0:=(h.jb hw hB).k;unfold GU at ew;split at ew
   ·grind[aBN]
   rename_i c1;split at ew
   ·have:=a1N r (h.step hw) hw (by rw[ew];exact hB) (by grind[nZ]);rw[ew] at this;exact this
   ·rename_i c2;have hi:(aD t w).K.toNat<(aD t w).Reads.length:=aa
    rw[vY hi] at hs;have hin:s∈(aD t w).Reads.drop ((aD t w).K+1).toNat:=by
     rw[show((aD t w).K+1).toNat=(aD t w).K.toNat+1 by omega];rcases j6.1 hs with q|q
     ·exfalso;have er:rdN (aD t w)=s:=by rw[q];unfold rdN;rw[I4,iT hi];rfl
      rw[er] at c2;apply c2;rcases hk with k|⟨v,hv,hn,k,_⟩
      ·right;omega
      ·left;unfold eO at hv;omega
     ·exact q
    have:=ih (h.step hw) (by rw[ew];exact hB) (by rw[ew];exact hp) ⟨s,by rw[ew];exact hin,hk'⟩;rw[ew] at this;exact this
  ·have ej:aD (aY t u) w=aD t w:=by
    by_cases hBu:(aD t u).bO=true
    ·rw[(nD h hu hBu).2 w hw,qS _ _ z]
    ·obtain⟨_,q|⟨x,_,_,q⟩⟩:=yP h hu hBu
     ·rw[q]
     ·rw[q w hw,qS _ _ z]
   have:=ih (h.step hu) ak ak ⟨s,ak,hk'⟩;grind
structure FC (F:Int->Bool) (t:Table):Prop where
 ok:∀w,eO w->(aD t w).bO=true->F (aD t w).aG=true->(aD t w).Code=0/\((aD t w).Pc=8->¬Bad F t w)
 bL6:∀w,eO w->(aD t w).bO=true->(aD t w).Code=0->9<=(aD t w).Pc->(aD t w).Pc<=19->F (aD t w).aG=true
theorem aMR(r:Rn t e)(he:∀v,eO v->(aD e v).bO=false)(h:Bz n t):FC (wU e) t:=
 ⟨λw hw hB hF=>⟨Classical.byContradiction λq=>(by grind[a1N]),λp q=>(by grind[bN3])⟩,λw hw hB hc p1 p2=>bE7 r he h (.inr ⟨w,hw,hB,rfl,hc,p1,p2⟩)⟩
def rpF(cm:Int->List iP)(a:NY×List (Int×List fY))(s:Int):NY×List (Int×List fY):=((wO a.1 (cm s)).1,a.2++[(s,(wO a.1 (cm s)).2)])
def rpS(cm:Int->List iP)(p:List Int):NY×List (Int×List fY):=p.foldl (rpF cm) (λ_=>none,[])
theorem aVX(cm:Int->List iP)(p:List Int)(s:Int):rpS cm (p++[s])=rpF cm (rpS cm p) s:=by grind[rpS]
def pts(F:Int->Bool)(l:List mT):List Int:=(l.filter λx=>x.Kind == 2 && F x.aG).map mT.aG
theorem a1O(F:Int->Bool)(l m:List mT):pts F (l++m)=pts F l++pts F m:=by grind[pts]
theorem bAJ{F:Int->Bool}{m:List mT}(h:∀x∈m,x.Kind≠2):pts F m=[]:=by grind[pts,List.filter_eq_nil_iff]
def MT(F:Int->Bool)(cm:Int->List iP)(t:Table):NY:=(rpS cm (pts F t.Log)).1
def RT(F:Int->Bool)(cm:Int->List iP)(t:Table):List (Int×List fY):=(rpS cm (pts F t.Log)).2
def rmW(j:aI):List aU:=if j.Pc=8 then j.aH else if 9<=j.Pc/\j.Pc<=13 then j.aH.drop j.K.toNat else []
def Clr(F:Int->Bool)(t:Table)(i:Int):Prop:=∀v,eO v->¬Holds F t v i
def JRd(F:Int->Bool)(cm:Int->List iP)(t:Table)(j:aI):Prop:=∃G,Did G j/\∀g∈G,∃s∈j.Reads,s.bR=jD g.1/\(s.eB=(dL t.aR s.bR).eB->Clr F t s.bR->MT F cm t g.1=g.2)
structure Wlk (m:Mem) (c:Int->List Int) (P:Prop) (j:aI):Prop where
 key:(OB j.aH (cH j).Key).2=false/\jD (cH j).Key=j.bR/\((cH j).Kind=1\/(cH j).Kind=4)
 at3:j.Pc=3\/j.Pc=4->P->∃A B,c j.bR=A++j.H::B/\∀a∈A,(cJ m a).Key≠(cH j).Key
 at4:j.Pc=4->P->j.Node=cJ m j.H
 at5:j.Pc=5->P->lkp m (c j.bR) (cH j).Key=if j.Found then some j.Node.dI else none
structure IvC (F:Int->Bool) (cm:Int->List iP) (t:Table) (c:Int->List Int):Prop where
 free:∀i,nY i->Clr F t i->∀k,jD k=i->MT F cm t k=lkp t.aA.Mem (c i) k
 held:∀i,nY i->∀v,eO v->Holds F t v i->∀k,jD k=i->MT F cm t k=apw (rmW (aD t v)) (lkp t.aA.Mem (c i)) k
 job:∀w,eO w->(aD t w).bO=true->(aD t w).Code=0->(aD t w).Pc<=7->JRd F cm t (aD t w)
 walk:∀w,eO w->(aD t w).bO=true->2<=(aD t w).Pc->(aD t w).Pc<=5->((aD t w).Pc≠2->(aD t w).eB<=(dL t.aR (aD t w).bR).eB)/\Wlk t.aA.Mem c ((aD t w).eB=(dL t.aR (aD t w).bR).eB/\Clr F t (aD t w).bR) (aD t w)
 res:∀w,eO w->(aD t w).bO=true->F (aD t w).aG=true->8<=(aD t w).Pc->(aD t w).Pc<=19->(aD t w).Batch.Collect=false->((aD t w).aG,(aD t w).fY)∈RT F cm t
 tel:∀x∈t.Log,x.Kind=3->x.Code=0->cm x.aG≠[]->(x.aG,x.fY)∈RT F cm t
 pt:∀x∈t.Log,x.Kind=2->cm x.aG≠[]/\∀v,eO v->(aD t v).bO=true->(aD t v).aG=x.aG->8<=(aD t v).Pc
 pu:((t.Log.filter λx=>x.Kind == 2).map mT.aG).Nodup
 cv:∀x∈t.Log,x.Kind=1->x.bK.length<=6/\∀c∈x.bK,QK c
def V6(j j':aI):Prop:=j'.Batch=j.Batch/\j'.At=j.At/\j'.aH=j.aH/\j'.fY=j.fY/\j'.Reads=j.Reads
theorem V6.did{j':aI}{G:List (Int×Option Int)}(h:V6 j j')(d:Did G j):Did G j':=λM hM=>by obtain⟨a,b,c,e,_⟩:=h;rw[a,b,c,e];exact d M hM
theorem aMS{b:aA}(hp:0<=j.Pc/\j.Pc<=21)(h:j.Pc≠1/\j.Pc≠5/\j.Pc≠19):V6 j (dX b k w j).j:=by
 unfold dX;have P:∀{c:Prop} [Decidable c] {x y:TR},(c->V6 j x.j)->(¬c->V6 j y.j)->_:=dM (P:=λr=>V6 j r.j);refine P (λ_=>?_) λ_=>P (λp=>absurd p h.1) λ_=>P (λp=>?_) λ_=>P (λ_=>?_) λ_=>P (λ_=>?_) λ_=>P (λ_=>?_) λ_=>P (λ_=>?_) λ_=>P (λ_=>?_) λ_=>P (λ_=>?_) λ_=>P (λ_=>?_) λ_=>P (λ_=>⟨rfl,rfl,rfl,rfl,rfl⟩) λ_=>P (λp=>absurd p h.2.2) λ_=>⟨rfl,rfl,rfl,rfl,rfl⟩
 ·show V6 j (lC b w j).2;unfold V6;grind[lC]
 ·show V6 j (iB b k w j);have:¬j.Pc=5:=h.2.1;unfold V6 iB nZ;grind
 ·show V6 j (qP b w j).2;unfold V6;grind[qP,nZ]
 ·show V6 j (mQ k w j).2.1;unfold V6;grind[mQ,D4,nZ]
 ·show V6 j (GU k w j);unfold V6;grind[GU,nZ]
 ·show V6 j (jH b k j).2.2;have z:V6 j j:=⟨rfl,rfl,rfl,rfl,rfl⟩;have pl:∀{j1:aI} (x:aU),V6 j j1->V6 j (I1 j1 x):=λx q=>by unfold I1;split<;>exact q
  have ol:V6 j (J3 j):=by unfold J3;split<;>exact z
  unfold jH;split;exact z;split
  ·simp only;split;exact pl _ z;exact z
  split
  ·simp only;split;exact z;split;exact pl _ z;exact z
  split
  ·split<;>exact pl _ ol
  split;exact z;split<;>exact z
 ·show V6 j (wR k j).2;unfold V6;grind[wR,G4]
 ·show V6 j (wS b w j).2;unfold V6;grind[wS,G4]
 ·show V6 j (wT b w j).2;unfold V6;grind[wT]
theorem aFG{W:List aU}{x:aU}(h:W.length+1<=6):(vG W x).length<=6:=by grind[YI]
theorem aPY(j:aI)(c:iP)(v:Int)(is:Bool):(lL j c v is).Reads=j.Reads/\(lL j c v is).Batch=j.Batch:=by
 have rr:∀(x:aU),(kH j x).2.Reads=j.Reads/\(kH j x).2.Batch=j.Batch:=λx=>by grind[kH,nZ]
 unfold lL;split
 ·generalize (if is then v else 0)=u;have h:=rr ⟨c.Key,false,BQ u c.dI⟩;unfold SI;split
  ·exact h
  ·exact h
 ·exact⟨rfl,rfl⟩
theorem aMT{G:List (Int×Option Int)}(d:Did G j)(hj:JB j)(hw:(j.aH.length:Int)<=j.At)(hp:j.Pc=1):Did G (oA j)/\(oA j).Reads=j.Reads/\((oA j).Pc<=5->2<=(oA j).Pc->(oA j).Pc=2/\(OB (oA j).aH (cH (oA j)).Key).2=false/\jD (cH (oA j)).Key=(oA j).bR/\((cH (oA j)).Kind=1\/(cH (oA j)).Kind=4)):=by
 have hat:=hj.at_;by_cases hc:sM j
 ·have hlen:j.aH.length+1<=6:=by have:=hj.V5.2.1;grind[sM]
  have h6:∀x,(kH j x).1=true/\(kH j x).2={j with aH:=vG j.aH x}:=λx=>by simp_all[kH,aP,aFG]
  by_cases hk:(cH j).Kind=2\/(cH j).Kind=3
  ·have e:oA j={{j with aH:=vG j.aH ⟨(cH j).Key,(cH j).Kind == 3,(cH j).dI⟩} with At:=j.At+1,fY:=j.fY++[⟨false,0⟩]}:=by simp_all[oA]
   grind[bE4]
  have hkk:(cH j).Kind=1\/(cH j).Kind=4:=by
   have hi:j.At.toNat<j.Batch.bK.length:=by grind[sM]
   have hm:cH j∈j.Batch.bK:=by grind[cH]
   have:=(hj.V5.2.2.1 _ hm).1;omega
  by_cases ho:(OB j.aH (cH j).Key).2=true
  ·have e:oA j=lL j (cH j) (OB j.aH (cH j).Key).1.dI (!(OB j.aH (cH j).Key).1.G3):=by simp_all[oA]
   rw[e];refine⟨a1L d hat.1 hc (λ_ h=>h) hkk (λM _=>?_) (aFG hlen),(aPY ..).1,λa b=>?_⟩
   ·rw[a1K,aO ho];grind
   grind[bI2]
  ·have e:oA j={j with Pc:=2,bR:=jD (cH j).Key}:=by simp_all[oA]
   rw[e];exact⟨V6.did ⟨rfl,rfl,rfl,rfl,rfl⟩ d,rfl,λ_ _=>⟨rfl,Bool.eq_false_iff.2 ho,rfl,hkk⟩⟩
 ·have e:oA j={j with Pc:=6,K:=0,Sub:=yK 1 16}:=by simp_all[oA]
  rw[e];exact⟨V6.did ⟨rfl,rfl,rfl,rfl,rfl⟩ d,rfl,λa=>by simp at a⟩
theorem bAK(l:List Seen)(b v:Int)(h:(nS l b v).2=true):(∀s∈l,s∈(nS l b v).1)/\∃s∈(nS l b v).1,s.bR=b/\s.eB=v:=by
 unfold nS at h ⊢;split at h
 ·grind
 simp_all
theorem a4E{Ky:List Int}{b:aA}{c:Int->List Int}{q:Int->Nat}{J:Int->aI}(h:sK Ky b k c q J)(hj:JB j){P:Prop}(hp:2<=j.Pc/\j.Pc<=4)(hw:Wlk b.Mem c P j)(hc:(iB b k w j).Code=0)(hc0:j.Code=0):(2<=(iB b k w j).Pc/\(iB b k w j).Pc<=5)/\(iB b k w j).bR=j.bR/\((iB b k w j).eB=if j.Pc=2 then(dL k j.bR).eB else j.eB)/\Wlk b.Mem c (j.Pc=2\/P) (iB b k w j):=by
 obtain⟨w1,w2,w3,w4⟩:=hw;have hb:nY j.bR:=hj.bkt;have hch:=h.ch _ hb;by_cases p2:j.Pc=2
 ·by_cases hl:(dL k j.bR).dU≠0
  ·exfalso;unfold iB at hc;rw[aO p2,aO hl] at hc;cases hc
  ·have e:iB b k w j={j with eB:=(dL k j.bR).eB,H:=(dL k j.bR).Head,Found:=false,Node:=aPD,Pc:=if(dL k j.bR).Head=0 then 5 else 3}:=by simp_all[iB]
   rw[e];refine⟨?_,rfl,ak,w1,λz _=>?_,λz=>?_,λz _=>?_⟩
   ·grind
   ·by_cases h0:(dL k j.bR).Head=0
    ·grind
    ·match hci:c j.bR,hch with
     |[],hch=>exact absurd hch h0
     |x::r,hch=>exact⟨[],r,by show x::r=(dL k j.bR).Head::r;rw[hch.1],ae⟩
   ·grind
   ·by_cases h0:(dL k j.bR).Head=0
    ·show lkp b.Mem (c j.bR) _=none
     match c j.bR,hch with
     |[],_=>rfl
     |x::r,hch=>exact absurd (hch.1.symm.trans h0) hch.2.1.ne
    grind
 by_cases p3:j.Pc=3
 ·have e:iB b k w j={j with Node:=V3 b.Mem.Heap j.H,Pc:=4}:=by simp_all[iB]
  rw[e];refine⟨ae,rfl,ak,w1,λ_ z=>w2 (.inl p3) (z.resolve_left p2),λ_ z=>?_,λz=>by simp at z⟩;obtain⟨A,B,e1,_⟩:=w2 (.inl p3) (z.resolve_left p2);rw[e1] at hch;exact aR4 (hch.all j.H ae).1
 have p4:j.Pc=4:=aa
 by_cases hpin:¬((cS b.aC w).On=true/\(cS b.aC w).gO=false)
 ·exfalso;unfold iB at hc;rw[aP p2,aP p3,aO p4,aO hpin] at hc;cases hc
 by_cases hC:sM j
 ·have e:iB b k w j={j with Found:=j.Node.Key == (cH j).Key,H:=MD j.Node,Pc:=if j.Node.Key=(cH j).Key\/MD j.Node=0 then 5 else 3}:=by simp_all[iB]
  rw[e];refine⟨ak,rfl,ak,w1,λz y=>?_,λz=>ak,λz y=>?_⟩
  ·obtain⟨A,B,e1,e2⟩:=w2 (.inr p4) (y.resolve_left p2);have en:=w3 p4 (y.resolve_left p2);rw[e1] at hch;have hH:=hch.split;have ng:¬(j.Node.Key=(cH j).Key\/MD j.Node=0):=λg=>ak
   rw[en,aMH hH.2.2.1] at ng
   match B,hH.2.2.2,e1 with
   |[],hq,_=>exact absurd hq λg=>ng (.inr g)
   |x::r,hq,e1=>
    refine⟨A++[j.H],r,?_,λa ha=>?_⟩
    ·show c j.bR=_;rw[e1,en,aMH hH.2.2.1,hq.1];simp
    ·rcases dD.1 ha with ha|ha
     ·exact e2 a ha
     ·rw[jJ.1 ha];exact λg=>ng (.inl g)
  ·obtain⟨A,B,e1,e2⟩:=w2 (.inr p4) (y.resolve_left p2);have en:=w3 p4 (y.resolve_left p2);rw[e1] at hch;have hH:=hch.split;show lkp b.Mem (c j.bR) (cH j).Key=if j.Node.Key == (cH j).Key then some j.Node.dI else none;rw[e1,en];by_cases g:(cJ b.Mem j.H).Key=(cH j).Key
   ·grind[lkp]
   ·rw[aP ak];have g2:MD j.Node=0:=Classical.byContradiction λq=>ak
    rw[en,aMH hH.2.2.1] at g2;refine aMI λa ha=>?_
    match B,hH.2.2.2,ha with
    |[],_,ha=>
     grind
    |x::r,hq,_=>exact absurd (hq.1.symm.trans g2) hq.2.1.ne
 ·exfalso;unfold iB at hc;rw[aP p2,aP p3,aO p4,aP hpin,aP hC] at hc;cases hc
theorem bGH{b:aA}(h:0<=j.Pc/\j.Pc<=6):(dX b k w j).j.Pc<=7\/(dX b k w j).j.Pc=16:=by
 unfold dX;have P:∀{c:Prop} [Decidable c] {x y:TR},(c->(x.j.Pc<=7\/x.j.Pc=16))->(¬c->(y.j.Pc<=7\/y.j.Pc=16))->_:=dM (P:=λr=>r.j.Pc<=7\/r.j.Pc=16);refine P (λp=>?_) λ_=>P (λp=>?_) λ_=>P (λp=>?_) λ_=>P (λp=>?_) λ_=>aa
 ·show(lC b w j).2.Pc<=7\/(lC b w j).2.Pc=16;grind[lC]
 ·show(oA j).Pc<=7\/(oA j).Pc=16;grind[oA,kH,nZ,lL,SI,SH]
 ·show(iB b k w j).Pc<=7\/(iB b k w j).Pc=16;grind[iB,kH,nZ,lL,SI,SH]
 ·show(qP b w j).2.Pc<=7\/(qP b w j).2.Pc=16;grind[qP,nZ]
theorem bLZ{b:aA}(h:j.Pc=20\/j.Pc=21):19<=(dX b k w j).j.Pc:=by
 have e:(dX b k w j).j=(lC b w j).2:=by simp_all[dX]
 grind[lC]
theorem bL0{b:aA}(hp:9<=j.Pc/\j.Pc<=13)(h:j.K<j.aH.length)(hc:(jH b k j).2.2.Code=0)(hc0:j.Code=0):(9<=(jH b k j).2.2.Pc/\(jH b k j).2.2.Pc<=13)/\((jH b k j).2.2.K=j.K\/(jH b k j).2.2.K=j.K+1):=by grind[jH,I1,J3,nZ]
theorem bAL{b:aA}(hk:(dX b k w j).l=[⟨2,w,j.aG,0,[],[]⟩]):j.Pc=7/\(dX b k w j).j.Pc=8:=by
 have p7:j.Pc=7:=Classical.byContradiction λq=>by
  have:(dX b k w j).l=[]\/(dX b k w j).l=[tlE w j]:=by unfold dX;have P:∀{c:Prop} [Decidable c] {x y:TR},(c->x.l=[]\/x.l=[tlE w j])->(¬c->y.l=[]\/y.l=[tlE w j])->_:=dM (P:=λr=>r.l=[]\/r.l=[tlE w j]);exact P (λ_=>.inl rfl) λ_=>P (λ_=>.inl rfl) λ_=>P (λ_=>.inl rfl) λ_=>P (λ_=>.inl rfl) λ_=>P (λp=>absurd p q) λ_=>P (λ_=>.inl rfl) λ_=>P (λ_=>.inl rfl) λ_=>P (λ_=>.inl rfl) λ_=>P (λ_=>.inl rfl) λ_=>P (λ_=>.inl rfl) λ_=>P (λ_=>.inl rfl) λ_=>P (λ_=>.inr rfl) λ_=>.inl rfl
  simp_all[tlE]
 have ed:dX b k w j=⟨b,(mQ k w j).1,(mQ k w j).2.1,if(mQ k w j).2.2 then [⟨2,w,j.aG,0,[],[]⟩] else []⟩:=by grind[dX]
 refine⟨p7,?_⟩;rw[ed] at hk ⊢;have k3:(mQ k w j).2.2=true:=Classical.byContradiction λz=>ak
 grind[mQ]
section
variable {n:Int} {t e:Table} {u:Int} (hu:eO u) (r:Rn (aY t u) e) (he:∀v,eO v->(aD e v).bO=false) (h:Bz n t) (hB:(aD t u).bO=true) {cm:Int->List iP} (hcm:∀w,eO w->(aD t w).bO=true->cm (aD t w).aG=(aD t w).Batch.bK) {c:Int->List Int} {q:Int->Nat} (sv:sK Ky7 t.aA t.aR c q (aD t)) (I:IvC (wU e) cm t c)
include hu r he h hB
theorem pc7(hi:nY i){v:Int}(hv:eO v)(k:Holds (wU e) (aY t u) v i):Holds (wU e) t v i\/v=u/\(aD t u).Pc=7/\(dX t.aA t.aR u (aD t u)).j.Pc=8:=by
 obtain⟨k1,k2,k3⟩:=k;obtain⟨e1,ej⟩:=nD h hu hB;obtain⟨hB',_,_⟩:=zT (h.step hu) hv hi k1;have bk:=aMQ (b:=t.aA) h.v.bk.1 (h.jb hu hB) (h.lk hu) hi;rw[e1] at k1;have k1:(dL (dX t.aA t.aR u (aD t u)).k i).dU=v+1:=k1;by_cases z:v=u
 ·have fc:=(aMR r he (h.step hu)).ok v hv hB' k2;have hl:=(zT h hu hi);rw[ej v hv,z,gZ] at k2 k3 fc;obtain⟨hpc,_⟩:=h.tw hu hB;have hs:=uH t.aA t.aR u (aD t u) hpc;by_cases p7:(aD t u).Pc<=6
  ·have:=bGH (b:=t.aA) (k:=t.aR) (w:=u) (j:=aD t u) ⟨hpc.1,p7⟩;rcases bk with ⟨_,b|b|b⟩|b
   ·have:=(hl aa).2.2;omega
   ·omega
   ·omega
   ·omega
  ·by_cases p:(aD t u).Pc=7
   ·grind[dX,mQ,D4,nZ]
   ·left;refine⟨?_,?_,by rw[z];omega⟩
    ·rcases bk with ⟨_,b|b|b⟩|b
     ·omega
     ·omega
     ·unfold eO at hv;omega
     ·unfold eO at hv;omega
    ·rcases hs with ⟨s1,_⟩|⟨_,s1,_⟩
     ·grind
     ·rw[s1] at k3;exact absurd k3 ai
 ·left;rw[ej v hv,qS _ _ z] at k2 k3;refine⟨?_,k2,k3⟩;unfold eO at hv hu;rcases bk with ⟨_,b|b|b⟩|b<;>omega
theorem bE8(hp:9<=(aD t u).Pc/\(aD t u).Pc<=13)(hk:(aD t u).K<(aD t u).aH.length){c:Int->List Int}{q:Int->Nat}(sv:sK Ky7 t.aA t.aR c q (aD t)):nY (bi (aD t u))/\Holds (wU e) t u (bi (aD t u)):=by
 have hj:=h.jb hu hB;have hi:(aD t u).K.toNat<(aD t u).aH.length:=by have:=hj.k;omega
 have er:mR (aD t u)=(aD t u).aH[(aD t u).K.toNat]:=by grind[mR]
 have hm:mR (aD t u)∈(aD t u).aH:=ak
 have hx:=hj.wr.2.1 _ hm;have hb:nY (bi (aD t u)):=by unfold bi jD;omega
 have cd:=(h.tw hu hB).2;exact⟨hb,((h.lk hu).iff _ hb).1 ((sv.tw u hu hB).l8 aa _ hm),(aMR (.step hu r) he h).bL6 u hu hB aa hp.1 aa,aa⟩
include hcm sv I
theorem a1P:(MT (wU e) cm (aY t u)=MT (wU e) cm t/\RT (wU e) cm (aY t u)=RT (wU e) cm t/\¬((aD t u).Pc=7/\(dX t.aA t.aR u (aD t u)).j.Pc=8/\wU e (aD t u).aG=true)) \/
  ((aD t u).Pc=7/\(dX t.aA t.aR u (aD t u)).j.Pc=8/\wU e (aD t u).aG=true)/\MT (wU e) cm (aY t u)=apw (aD t u).aH (MT (wU e) cm t)/\RT (wU e) cm (aY t u)=RT (wU e) cm t++[((aD t u).aG,(aD t u).fY)]:=by
 obtain⟨e1,ej⟩:=nD h hu hB;obtain⟨hpc,cd⟩:=h.tw hu hB;have el:(aY t u).Log=t.Log++(dX t.aA t.aR u (aD t u)).l:=by rw[e1];rfl
 by_cases p:(aD t u).Pc=7/\(dX t.aA t.aR u (aD t u)).j.Pc=8
 ·have ed:dX t.aA t.aR u (aD t u)=⟨t.aA,(mQ t.aR u (aD t u)).1,(mQ t.aR u (aD t u)).2.1,if(mQ t.aR u (aD t u)).2.2 then [⟨2,u,(aD t u).aG,0,[],[]⟩] else []⟩:=by grind[dX]
  have e8:(mQ t.aR u (aD t u)).2.1.Pc=8:=ak
  have e3:(mQ t.aR u (aD t u)).2.2=true/\(mQ t.aR u (aD t u)).2.1.K=0:=by grind[mQ,D4,nZ]
  have ell:(dX t.aA t.aR u (aD t u)).l=[⟨2,u,(aD t u).aG,0,[],[]⟩]:=ak
  rw[ell] at el;cases hF:wU e (aD t u).aG
  ·grind[pts,MT,RT]
  ·right;refine⟨⟨p.1,p.2,rfl⟩,?_⟩;have hp:pts (wU e) (aY t u).Log=pts (wU e) t.Log++[(aD t u).aG]:=by grind[pts]
   obtain⟨G,d,g⟩:=I.job u hu hB aa aa;have sm:V6 (aD t u) (dX t.aA t.aR u (aD t u)).j:=aMS hpc aa;have hs1:(dX t.aA t.aR u (aD t u)).j.aG=(aD t u).aG/\(dX t.aA t.aR u (aD t u)).j.bO=true:=by
    rcases uH t.aA t.aR u (aD t u) hpc with ⟨s1,s2,_⟩|⟨s,_⟩
    ·exact⟨s1,s2.trans hB⟩
    ·omega
   have ew:aD (aY t u) u=(dX t.aA t.aR u (aD t u)).j:=by grind[gZ]
   have nb:=((aMR r he (h.step hu)).ok u hu ak ak).2 ak;have sees:bAF G (MT (wU e) cm t):=λx hx=>by
    obtain⟨s,hs,hsb,hk⟩:=g x hx;have hb:nY s.bR:=(h.jb hu hB).reads.1 s hs;have hin:s∈(aD (aY t u) u).Reads.drop (aD (aY t u) u).K.toNat:=by rw[ew,sm.2.2.2.2,show(dX t.aA t.aR u (aD t u)).j.K=0 by grind];exact hs
    have a1:=h.rv u hu s hs;have a2:=aSB h hu hb;refine hk ?_ λv hv k=>?_
    ·have:¬s.eB<(dL (aY t u).aR s.bR).eB:=λz=>nb ⟨s,hin,.inl z⟩;omega
    ·rcases k.step h hu r hv hb with k'|⟨z,z2,_⟩
     ·by_cases z:v=u
      ·have:=k.2.2;grind
      ·exact nb ⟨s,hin,.inr ⟨v,hv,z,k'⟩⟩
     grind
   have hat:=(sv.tw u hu hB).at_ aa aa;have dd:=d _ sees;grind[List.take_length,MT,RT,aVX,rpF]
 ·left;have hl:∀x∈(dX t.aA t.aR u (aD t u)).l,x.Kind≠2:=λx hx=>by
   rcases uH t.aA t.aR u (aD t u) hpc with ⟨_,_,_,k|k⟩|⟨_,_,k⟩
   ·grind
   ·grind[bAL]
   ·rw[k] at hx;rw[jJ.1 hx];exact(by decide:(3:Int)≠2)
  have:pts (wU e) (aY t u).Log=pts (wU e) t.Log:=by grind[a1O,bAJ]
  grind[MT,RT]
theorem a1Q(hi:nY i)(hn:¬Holds (wU e) (aY t u) u i){k:Int}(hk:jD k=i):MT (wU e) cm (aY t u) k=MT (wU e) cm t k:=by
 obtain⟨e1,ej⟩:=nD h hu hB;obtain⟨hpc,cd⟩:=h.tw hu hB;rcases a1P hu r he h hB hcm sv I with ⟨a,_⟩|⟨⟨p7,p8,hF⟩,a,_⟩
 ·rw[a]
 ·rw[a];refine aVT λy hy q=>hn ?_;have hs1:(dX t.aA t.aR u (aD t u)).j.aG=(aD t u).aG/\(dX t.aA t.aR u (aD t u)).j.bO=true:=by
   rcases uH t.aA t.aR u (aD t u) hpc with ⟨s1,s2,_⟩|⟨s,_⟩
   ·exact⟨s1,s2.trans hB⟩
   ·omega
  have sm:V6 (aD t u) (dX t.aA t.aR u (aD t u)).j:=aMS hpc aa;have ew:aD (aY t u) u=(dX t.aA t.aR u (aD t u)).j:=by grind[gZ]
  obtain⟨_,q',hs'⟩:=(h.step hu).pl;obtain⟨c',sv'⟩:=hs'.sv;have l8:=(sv'.tw u hu ak).l8 ak y (by rw[ew,sm.2.2.1];exact hy);rw[q,hk] at l8;exact⟨(((h.step hu).lk hu).iff i hi).1 l8,ak,ak⟩
theorem ck(hi:nY i){x:Int}(hx:x<=(dL t.aR i).eB)(e1:x=(dL (aY t u).aR i).eB)(hc:Clr (wU e) (aY t u) i):x=(dL t.aR i).eB/\Clr (wU e) t i/\∀k,jD k=i->MT (wU e) cm (aY t u) k=MT (wU e) cm t k:=by
 have a2:=aSB h hu hi;refine⟨aa,λv hv k=>?_,λk hk=>a1Q hu r he h hB hcm sv I hi (hc u hu) hk⟩;rcases k.step h hu r hv hi with k'|⟨_,_,z,_⟩
 ·exact hc v hv k'
 ·omega
theorem bJE{j':aI}{w:Int}(hw:eO w)(ejw:aD t w=j)(hb:(aD t w).bO=true)(k:JRd (wU e) cm t j)(hd:∀G,Did G j->Did G j')(hr:∀s∈j.Reads,s∈j'.Reads):JRd (wU e) cm (aY t u) j':=by obtain⟨G,d,g⟩:=k;refine⟨G,hd G d,λx hx=>?_⟩;obtain⟨s,hs,hsb,hk⟩:=g x hx;subst ejw;refine⟨s,hr s hs,hsb,λa b=>?_⟩;obtain⟨c1,c2,c3⟩:=ck hu r he h hB hcm sv I ((h.jb hw hb).reads.1 s hs) (h.rv w hw s hs) a b;grind
end
theorem Wlk.mono{m m':Mem}{c c':Int->List Int}{P P':Prop}(h:Wlk m c P j)(k:P'->P/\c' j.bR=c j.bR/\∀x∈c j.bR,cJ m' x=cJ m x):Wlk m' c' P' j:=by
 refine⟨h.key,λz p=>?_,λz p=>?_,λz p=>?_⟩
 ·obtain⟨k1,k2,k3⟩:=k p;obtain⟨A,B,a,b⟩:=h.at3 z k1;grind
 ·obtain⟨k1,k2,k3⟩:=k p;obtain⟨A,B,a,b⟩:=h.at3 (.inr z) k1;rw[h.at4 z k1,k3 j.H (by rw[a];simp)]
 ·obtain⟨k1,k2,k3⟩:=k p;rw[k2,YJ (m:=m) (m':=m') (λx hx=>ak)];exact h.at5 z k1
theorem bAM{b:aA}(p:j.Pc=5):(iB b k w j).Pc=16\/(iB b k w j).Pc=1:=by
 have a:∀(j:aI) c v is,(lL j c v is).Pc=16\/(lL j c v is).Pc=1:=λj c v is=>by
  unfold lL;split
  ·generalize (if is then v else 0)=u;unfold SI kH;by_cases q:6<(vG j.aH ⟨c.Key,false,BQ u c.dI⟩).length
   ·rw[aO q];exact .inl rfl
   ·rw[aP q];exact .inr rfl
  ·exact .inr rfl
 unfold iB;rw[gT,gT,gT];split;exact .inl rfl;split;exact .inl rfl;split;exact a ..;exact .inl rfl
section
variable {n:Int} {t e:Table} {u:Int} (hu:eO u) (r:Rn (aY t u) e) (he:∀v,eO v->(aD e v).bO=false) (h:Bz n t) (hB:(aD t u).bO=true) {cm:Int->List iP} (hcm:∀w,eO w->(aD t w).bO=true->cm (aD t w).aG=(aD t w).Batch.bK) {c:Int->List Int} {q:Int->Nat} (sv:sK Ky7 t.aA t.aR c q (aD t)) (I:IvC (wU e) cm t c)
include hu r he h hB hcm sv I
theorem a4F(p:(aD t u).Pc=5)(hc:(iB t.aA t.aR u (aD t u)).Code=0):JRd (wU e) cm (aY t u) (iB t.aA t.aR u (aD t u)):=by
 have hj:=h.jb hu hB;have tw:=sv.tw u hu hB;have hC:=tw.hc aa;obtain⟨_,w1,_,_,w4⟩:=I.walk u hu hB aa aa;obtain⟨G,d,g⟩:=I.job u hu hB (by have:=tw.cd;omega) aa;have hb:nY (aD t u).bR:=hj.bkt;unfold iB at hc ⊢;rw[gT,gT,gT] at hc ⊢;by_cases q1:(dL t.aR (aD t u).bR).dU≠0\/(dL t.aR (aD t u).bR).eB≠(aD t u).eB
 ·rw[aO q1] at hc;cases hc
 rw[aP q1] at hc ⊢;by_cases q2:(nS (aD t u).Reads (aD t u).bR (aD t u).eB).2=false
 ·rw[aO q2] at hc;cases hc
 rw[aP q2,aO hC];clear hc;have hl0:(dL t.aR (aD t u).bR).dU=0:=Classical.byContradiction λz=>q1 (.inl z);have hv0:(dL t.aR (aD t u).bR).eB=(aD t u).eB:=Classical.byContradiction λz=>q1 (.inr z);have clr:Clr (wU e) t (aD t u).bR:=λv hv k=>by have:=k.1;omega
 have hx:=(I.free _ hb clr _ w1.2.1).trans (w4 p ⟨hv0.symm,clr⟩);obtain⟨r1,s0,r2,r3,r4⟩:=bAK (aD t u).Reads (aD t u).bR (aD t u).eB ak;have hlen:(aD t u).aH.length+1<=6:=by have:=hj.V5.2.1;have:=tw.wl;grind[sM]
 have ar:=(aPY {aD t u with Reads:=(nS (aD t u).Reads (aD t u).bR (aD t u).eB).1} (cH (aD t u)) (aD t u).Node.dI (aD t u).Found).1;refine⟨((cH (aD t u)).Key,if(aD t u).Found then some (aD t u).Node.dI else none)::G,?_,λx hx'=>?_⟩
 ·exact a1L (j:={aD t u with Reads:=(nS (aD t u).Reads (aD t u).bR (aD t u).eB).1}) (G:=G) d hj.at_.1 hC (λM hM x hx=>hM x (lD _ hx)) w1.2.2 (λM hM=>by
   rw[a1K];have:=w1.1;show(if(OB (aD t u).aH (cH (aD t u)).Key).2=true then _ else M (cH (aD t u)).Key)=_;rw[this];exact hM _ (aBQ ..)) (aFG hlen)
 ·rw[ar];rcases j6.1 hx' with z|z
  ·subst z;refine⟨s0,r2,r3.trans w1.2.1.symm,λa b=>?_⟩;rw[r3] at a b;obtain⟨_,_,c3⟩:=ck hu r he h hB hcm sv I hb aa a b;grind
  ·obtain⟨s,hs,hsb,hk⟩:=g x z;refine⟨s,r1 s hs,hsb,λa b=>?_⟩;obtain⟨c1,c2,c3⟩:=ck hu r he h hB hcm sv I (hj.reads.1 s hs) (h.rv u hu s hs) a b;grind
theorem IvC.bL1:∃c' q',sK Ky7 (aY t u).aA (aY t u).aR c' q' (aD (aY t u))/\IvC (wU e) cm (aY t u) c':=by
 have hJ:∀v,eO v->(aD t v).bO=true->JB (aD t v):=λv hv hb=>h.jb hv hb;obtain⟨_,q0,hs⟩:=h.pl;obtain⟨c',sv',W⟩:=bGB sv hs.lk hu h.v.base h.v.bk hJ hB hs.ep;obtain⟨e1,ej⟩:=nD h hu hB;have h':=h.step hu;have fc:=aMR (.step hu r) he h;have fc':=aMR r he h';obtain⟨hpc,cd⟩:=h.tw hu hB;have tw:=sv.tw u hu hB;have hj:=h.jb hu hB;have mk:=λ{i:Int} (hi:nY i) (hn:¬Holds (wU e) (aY t u) u i) {k:Int} (hk:jD k=i)=>a1Q hu r he h hB hcm sv I hi hn hk;have ms:=a1P hu r he h hB hcm sv I;have hp7:=λ{i:Int} (hi:nY i) {v:Int} (hv:eO v) k=>pc7 hu r he h hB hi (v:=v) hv k;have jup:=λ{j j':aI} {w:Int} (hw:eO w) a b k d r'=>bJE hu r he h hB hcm sv I (j:=j) (j':=j') (w:=w) hw a b k d r';have cks:=λ{i:Int} (hi:nY i) {x:Int} hx a b=>ck hu r he h hB hcm sv I hi (x:=x) hx a b;have eb:(aY t u).aA=(dX t.aA t.aR u (aD t u)).b:=by rw[e1];rfl
 have ek:(aY t u).aR=(dX t.aA t.aR u (aD t u)).k:=by rw[e1];rfl
 have ew:aD (aY t u) u=(dX t.aA t.aR u (aD t u)).j:=by rw[ej u hu,gZ]
 have eo:∀v,eO v->v≠u->aD (aY t u) v=aD t v:=λv hv hn=>by rw[ej v hv,qS _ _ hn]
 have keep:∀i,nY i->(aD t u).Pc≠11/\(aD t u).Pc≠13\/¬Holds (wU e) t u i->c' i=c i/\∀x∈c i,cJ (aY t u).aA.Mem x=cJ t.aA.Mem x:=λi hi z=>by
  rw[eb];refine W.keep i hi λp ei=>?_;rcases z with z|z
  ·omega
  ·rw[ei] at z;exact z (bE8 hu r he h hB aa (tw.k9 aa) sv).2
 have lk:∀i,nY i->(aD t u).Pc≠11/\(aD t u).Pc≠13\/¬Holds (wU e) t u i->∀k,lkp (aY t u).aA.Mem (c' i) k=lkp t.aA.Mem (c i) k:=λi hi z k=>by obtain⟨a,b⟩:=keep i hi z;rw[a];exact YJ (λx hx=>by rw[b x hx];omega) k
 have lock1:∀{v i:Int},Holds (wU e) t v i->v≠u->¬Holds (wU e) t u i:=λa z b=>z (by have:=a.1;have:=b.1;omega);have rsub:∀x∈RT (wU e) cm t,x∈RT (wU e) cm (aY t u):=λx hx=>by
  rcases ms with ⟨_,a,_⟩|⟨_,_,a⟩
  ·grind
  ·rw[a];exact V7 _ hx
 have own:(aD (aY t u) u).bO=true->(dX t.aA t.aR u (aD t u)).j.aG=(aD t u).aG/\(dX t.aA t.aR u (aD t u)).j.Batch=(aD t u).Batch/\(aD t u).Pc≠19:=λhb=>by
  rcases uH t.aA t.aR u (aD t u) hpc with ⟨s1,_,s3,_⟩|⟨_,s1,_⟩
  ·refine⟨s1,s3,λp=>?_⟩;have e2:(dX t.aA t.aR u (aD t u)).j=cG:=by unfold dX;simp only[p];rfl
   rw[ew,e2] at hb;cases hb
  ·rw[ew,s1] at hb;cases hb
 have low:(aD (aY t u) u).bO=true->(aD (aY t u) u).Code=0->(aD (aY t u) u).Pc<=7->(aD t u).Pc<=7/\(aD t u).Code=0:=λhb hc hp=>by
  obtain⟨_,_,p19⟩:=own hb;rw[ew] at hc hp;have:(aD t u).Pc<=7:=Classical.byContradiction λz=>by
   by_cases p20:(aD t u).Pc=20\/(aD t u).Pc=21
   ·have:=bLZ (b:=t.aA) (k:=t.aR) (w:=u) p20;omega
   ·by_cases c0:(aD t u).Code=0
    ·rcases aSA (b:=t.aA) (k:=t.aR) (w:=u) (j:=aD t u) aa aa c0 with y|⟨_,y,_⟩
     ·omega
     ·split at y<;>omega
    ·rw[aVW aa] at hc;exact c0 hc
  omega
 refine⟨c',_,by rw[eb,ek];exact sv'.congr ej,?_,?_,?_,?_,?_,?_,?_,?_,?_⟩
 ·intro i hi hc k hk;rw[mk hi (hc u hu) hk];by_cases z:Clr (wU e) t i
  ·rw[I.free i hi z k hk,lk i hi (.inr (z u hu))]
  ·obtain⟨v,hv,kh⟩:∃v,eO v/\Holds (wU e) t v i:=Classical.byContradiction λy=>z λv hv k=>y ⟨v,hv,k⟩;rcases kh.step h hu r hv hi with y|⟨y,p14,_⟩
   ·exact absurd y (hc v hv)
   ·rw[I.held i hi v hv kh k hk];have:rmW (aD t v)=[]:=by unfold rmW;rw[gT,gT]
    rw[this,aDU,lk i hi (.inl (by rw[y];omega))]
 ·intro i hi v hv kh k hk;rcases hp7 hi hv kh with k0|⟨z,p7,p8⟩
  ·by_cases z:v=u
   ·subst z;obtain⟨hb',_,hpp⟩:=zT h' hv hi kh.1;obtain⟨o1,o2,o3⟩:=own hb';have hc0:=(fc'.ok v hv hb' (by rw[ew,o1];exact k0.2.1)).1;rw[ew] at hc0 hpp;have p8:=k0.2.2;obtain⟨_,_,hpp0⟩:=zT h hv hi k0.1;have c0:=(fc.ok v hv hB k0.2.1).1;have em:MT (wU e) cm (aY t v)=MT (wU e) cm t:=ak
    rw[em,I.held i hi v hv k0 k hk,ew];have sm:V6 (aD t v) (dX t.aA t.aR v (aD t v)).j:=aMS hpc aa;by_cases q8:(aD t v).Pc=8
    ·have e2:(dX t.aA t.aR v (aD t v)).j=GU t.aR v (aD t v):=by unfold dX;simp only[q8];rfl
     have e3:rmW (dX t.aA t.aR v (aD t v)).j=(aD t v).aH:=by
      rw[e2] at hc0 ⊢;unfold rmW;unfold GU at hc0 ⊢;split
      ·simp
      ·rename_i a;rw[aP a] at hc0;split
       ·rename_i a2;rw[aO a2] at hc0;cases hc0
       ·simp[q8]
     rw[e3,show rmW (aD t v)=(aD t v).aH from aO q8];exact SP (lk i hi (.inl aa) k).symm
    by_cases q14:(aD t v).Pc=14
    ·have e2:(dX t.aA t.aR v (aD t v)).j=(wR t.aR (aD t v)).2:=by unfold dX;simp only[q14];rfl
     have e3:rmW (dX t.aA t.aR v (aD t v)).j=[]:=by
      rw[e2];have:(wR t.aR (aD t v)).2.Pc=14\/(wR t.aR (aD t v)).2.Pc=15:=by grind[wR,G4]
      unfold rmW;rw[gT,gT]
     rw[e3,show rmW (aD t v)=[] by unfold rmW;grind,aDU,aDU];exact(lk i hi (.inl aa) k).symm
    have q9:9<=(aD t v).Pc/\(aD t v).Pc<=13:=aa
    have e2:(dX t.aA t.aR v (aD t v)).j=(jH t.aA t.aR (aD t v)).2.2:=by unfold dX;rw[gT,gT,gT,gT,gT,gT,aO q9]
    have r0:rmW (aD t v)=(aD t v).aH.drop (aD t v).K.toNat:=by unfold rmW;grind
    by_cases hK:(aD t v).K<(aD t v).aH.length
    ·have hsrt:=hj.wr.2.2;have hk0:=hj.k.1;rw[e2] at hc0 sm;obtain⟨k1,k2⟩:=bL0 q9 hK hc0 c0;have r1:rmW (dX t.aA t.aR v (aD t v)).j=(aD t v).aH.drop (jH t.aA t.aR (aD t v)).2.2.K.toNat:=by rw[e2];unfold rmW;rw[gT,aO k1,sm.2.2.1]
     have oth:∀k,k≠(mR (aD t v)).Key->jD k=i->lkp t.aA.Mem (c i) k=lkp (aY t v).aA.Mem (c' i) k:=λk a b=>by
      by_cases y:i=bi (aD t v)
      ·rw[y,eb];exact(W.oth q9 k a).symm
      ·obtain⟨a1,a2⟩:=W.keep i hi λ_=>y;rw[a1,eb];exact(YJ (λx hx=>by rw[a2 x hx];omega) k).symm
     rw[r0,r1,aVU hsrt hk0 hK];rcases k2 with k2|k2
     ·rw[k2,aVU hsrt hk0 hK];split
      ·rfl
      ·rename_i y;exact SP (oth k y hk)
     ·rw[k2];split
      ·rename_i y;rw[aVT (λx hx=>by rw[y];exact bE3 hsrt hk0 hK x hx),y,show i=bi (aD t v) by rw[<-hk,y];rfl,eb];exact(W.key q9 ak).symm
      ·rename_i y;exact SP (oth k y hk)
    ·have p9:(aD t v).Pc=9:=by have:=tw.k9;omega
     have e3:(jH t.aA t.aR (aD t v)).2.2.Pc=14:=by unfold jH;grind
     rw[r0,aBN aa,show rmW (dX t.aA t.aR v (aD t v)).j=[] by rw[e2];unfold rmW;rw[gT,gT],aDU,aDU];exact(lk i hi (.inl aa) k).symm
   ·rw[mk hi (λy=>z (by have:=y.1;have:=kh.1;omega)) hk,eo v hv z,I.held i hi v hv k0 k hk];exact SP (lk i hi (.inr (lock1 k0 z)) k).symm
  ·subst z;obtain⟨hb',_,_⟩:=zT h' hv hi kh.1;obtain⟨o1,_,_⟩:=own hb';have hF:wU e (aD t v).aG=true:=by have:=kh.2.1;grind
   have bk:=aMQ (b:=t.aA) h.v.bk.1 hj (h.lk hv) hi;have hl:=kh.1;rw[ek] at hl;have clr:Clr (wU e) t i:=λv' hv' k'=>by
    have a:=k'.1;have b:=k'.2.2;by_cases y:v'=v
    ·grind
    ·unfold eO at hv hv';rcases bk with ⟨_,z|z|z⟩|z<;>omega
   rcases ms with ⟨_,_,a⟩|⟨_,a,_⟩
   ·grind
   ·have sm:V6 (aD t v) (dX t.aA t.aR v (aD t v)).j:=aMS hpc aa;rw[a,ew,show rmW (dX t.aA t.aR v (aD t v)).j=(aD t v).aH by unfold rmW;rw[aO p8,sm.2.2.1]];exact SP (by rw[I.free i hi clr k hk,lk i hi (.inl aa)])
 ·intro w hw hb hc hp;by_cases z:w=u
  ·subst z;obtain⟨p7,c0⟩:=low hb hc hp;have jr:=I.job w hw hB c0 p7;rw[ew] at hc hp ⊢;by_cases p1:(aD t w).Pc=1
   ·have e2:(dX t.aA t.aR w (aD t w)).j=oA (aD t w):=by unfold dX;simp only[p1];rfl
    rw[e2];obtain⟨G0,d0,g0⟩:=jr;have hrd:=(aMT d0 hj tw.wl p1).2.1;exact jup hw rfl hB ⟨G0,d0,g0⟩ (λG d=>(aMT d hj tw.wl p1).1) λs hs=>ak
   by_cases p5:(aD t w).Pc=5
   ·have e2:(dX t.aA t.aR w (aD t w)).j=iB t.aA t.aR w (aD t w):=by unfold dX;simp only[p5];rfl
    rw[e2] at hc ⊢;exact a4F hw r he h hB hcm sv I p5 hc
   have sm:V6 (aD t w) (dX t.aA t.aR w (aD t w)).j:=aMS hpc aa;exact jup hw rfl hB jr (λG d=>sm.did d) λs hs=>by rw[sm.2.2.2.2];exact hs
  ·rw[eo w hw z] at hb hc hp ⊢;exact jup hw rfl hb (I.job w hw hb hc hp) (λ_ d=>d) λ_ h=>h
 ·intro w hw hb a2 a5;by_cases z:w=u
  ·subst z;have cd':=(h'.tw hw hb).2;have hc:(aD (aY t w) w).Code=0:=aa
   obtain⟨p7,c0⟩:=low hb hc aa;rw[ew] at hc a2 a5 ⊢;by_cases p1:(aD t w).Pc=1
   ·have e2:(dX t.aA t.aR w (aD t w)).j=oA (aD t w):=by unfold dX;simp only[p1];rfl
    rw[e2] at a2 a5 ⊢;obtain⟨G,d,_⟩:=I.job w hw hB c0 p7;obtain⟨x1,x2⟩:=(aMT d hj tw.wl p1).2.2 a5 a2;exact⟨λy=>absurd x1 y,x2,λy=>aa,λy=>aa,λy=>aa⟩
   have hp24:2<=(aD t w).Pc/\(aD t w).Pc<=4:=by
    by_cases p0:(aD t w).Pc=0
    ·exfalso;have e2:(dX t.aA t.aR w (aD t w)).j=(lC t.aA w (aD t w)).2:=by unfold dX;grind
     rw[e2] at a2;have:(lC t.aA w (aD t w)).2.Pc<=1:=by grind[lC]
     omega
    by_cases p5:(aD t w).Pc=5
    ·exfalso;have e2:(dX t.aA t.aR w (aD t w)).j=iB t.aA t.aR w (aD t w):=by unfold dX;simp only[p5];rfl
     rw[e2] at a2 a5 hc;have:=bAM (b:=t.aA) (k:=t.aR) (w:=w) p5;omega
    by_cases p6:(aD t w).Pc=6
    ·exfalso;have e2:(dX t.aA t.aR w (aD t w)).j=(qP t.aA w (aD t w)).2:=by unfold dX;simp only[p6];rfl
     rw[e2] at a5;have:6<=(qP t.aA w (aD t w)).2.Pc:=by grind[qP,nZ]
     omega
    by_cases p7:(aD t w).Pc=7
    ·exfalso;have e2:(dX t.aA t.aR w (aD t w)).j=(mQ t.aR w (aD t w)).2.1:=by unfold dX;simp only[p7];rfl
     rw[e2] at a5;have:7<=(mQ t.aR w (aD t w)).2.1.Pc:=by grind[mQ,D4,nZ]
     omega
    omega
   have ed:dX t.aA t.aR w (aD t w)=⟨t.aA,t.aR,iB t.aA t.aR w (aD t w),[]⟩:=by unfold dX;rw[gT,gT,aO aa]
   rw[ed] at a2 a5 hc ek eb;obtain⟨i1,i2⟩:=I.walk w hw hB hp24.1 aa;obtain⟨_,s2,s3,s4⟩:=a4E sv (w:=w) hj hp24 i2 hc c0;rw[ed];simp only;rw[s2,ek];have hbk:nY (aD t w).bR:=hj.bkt;refine⟨λ_=>?_,s4.mono λP'=>?_⟩
   ·rw[s3];split
    ·simp
    grind
   ·obtain⟨k1,k2⟩:=keep (aD t w).bR hbk (.inl aa);rw[s2];refine⟨?_,k1,k2⟩;by_cases y:(aD t w).Pc=2
    ·exact .inl y
    ·right;rw[s3,aP y] at P';obtain⟨c1,c2,_⟩:=cks hbk (i1 y) ak P'.2;grind
  ·rw[eo w hw z] at hb a2 a5 ⊢;obtain⟨i1,i2⟩:=I.walk w hw hb a2 a5;have hbk:nY (aD t w).bR:=(h.jb hw hb).bkt;refine⟨λy=>aI8 (i1 y) (aSB h hu hbk),?_⟩;by_cases y:(aD t w).Pc=2
   ·exact⟨i2.key,λa=>aa,λa=>aa,λa=>aa⟩
   refine i2.mono λP'=>?_;obtain⟨c1,c2,_⟩:=cks hbk (i1 y) P'.1 P'.2;exact⟨⟨c1,c2⟩,keep _ hbk (.inr (c2 u hu))⟩
 ·intro w hw hb hF a8 a19 hcl;by_cases z:w=u
  ·subst z;obtain⟨o1,o2,o3⟩:=own hb;have hc:=(fc'.ok w hw hb hF).1;rw[ew] at hF a8 a19 hcl hc ⊢;rw[o1] at hF ⊢;rw[o2] at hcl;by_cases p7:(aD t w).Pc=7
   ·have e2:(dX t.aA t.aR w (aD t w)).j=(mQ t.aR w (aD t w)).2.1:=by unfold dX;simp only[p7];rfl
    have sm:V6 (aD t w) (dX t.aA t.aR w (aD t w)).j:=aMS hpc aa;have p8:(dX t.aA t.aR w (aD t w)).j.Pc=8:=by rw[e2] at hc a8 ⊢;grind[mQ,D4,nZ]
    rw[sm.2.2.2.1];rcases ms with ⟨_,_,a⟩|⟨_,_,a⟩
    ·grind
    ·rw[a];simp
   by_cases p6:(aD t w).Pc<=6
   ·exfalso;have:=bGH (b:=t.aA) (k:=t.aR) (w:=w) (j:=aD t w) ⟨hpc.1,p6⟩;have cd':=(h'.tw hw hb).2;rw[ew] at cd';omega
   have p20:(aD t w).Pc≠20/\(aD t w).Pc≠21:=by constructor<;>(intro p;have:=tw.cl2 aa;grind)
   have sm:V6 (aD t w) (dX t.aA t.aR w (aD t w)).j:=aMS hpc aa;rw[sm.2.2.2.1];exact rsub _ (I.res w hw hB hF aa aa hcl)
  ·rw[eo w hw z] at hb hF a8 a19 hcl ⊢;exact rsub _ (I.res w hw hb hF a8 a19 hcl)
 ·intro x hx kx cx hne;rw[e1] at hx;rcases dD.1 hx with hx|hx
  ·exact rsub _ (I.tel x hx kx cx hne)
  ·rcases uH t.aA t.aR u (aD t u) hpc with ⟨_,_,_,k|k⟩|⟨p,_,k⟩<;>rw[k] at hx
   ·cases hx
   ·rw[jJ.1 hx] at kx;cases kx
   ·have ex:=jJ.1 hx;subst ex;have hc0:(aD t u).Code=0:=cx;have p19:(aD t u).Pc=19:=aa
    have hF:=fc.bL6 u hu hB hc0 aa aa;have hcl:(aD t u).Batch.Collect=false:=by
     cases y:(aD t u).Batch.Collect
     ·rfl
     ·exfalso;apply hne;show cm (aD t u).aG=[];rw[hcm u hu hB];exact hj.V5.1 y
    have er:(tlE u (aD t u)).fY=(aD t u).fY:=aO hc0;rw[er];exact rsub _ (I.res u hu hB hF aa aa hcl)
 ·have up:∀{s:Int},(∀v,eO v->(aD t v).bO=true->(aD t v).aG=s->8<=(aD t v).Pc)->∀v,eO v->(aD (aY t u) v).bO=true->(aD (aY t u) v).aG=s->8<=(aD (aY t u) v).Pc:=λ{s} k v hv hb es=>by
   by_cases y:v=u
   ·subst y;have cd':=(h'.tw hv hb).2;have o1:=(own hb).1;have:=k v hv hB ak;grind
   ·rw[eo v hv y] at hb es ⊢;exact k v hv hb es
  intro x hx kx;rw[e1] at hx;rcases dD.1 hx with hx|hx
  ·exact⟨(I.pt x hx kx).1,up (I.pt x hx kx).2⟩
  ·rcases uH t.aA t.aR u (aD t u) hpc with ⟨_,_,_,k|k⟩|⟨p,_,k⟩<;>rw[k] at hx
   ·cases hx
   ·rw[jJ.1 hx];have p7:=bAL k;refine⟨?_,λv hv hb es=>?_⟩
    ·show cm (aD t u).aG≠[];rw[hcm u hu hB];intro z;have hcl:(aD t u).Batch.Collect=false:=by
      cases y:(aD t u).Batch.Collect
      ·rfl
      ·have:=tw.cl y;omega
     have:=hj.V5.2.2.2 hcl;rw[z] at this;simp at this
    ·have hvu:v=u:=by
      by_cases y:v=u
      ·exact y
      ·rw[eo v hv y] at hb es;exact absurd (h.ne hv hu hb hB es) y
     grind
   ·rw[jJ.1 hx] at kx;cases kx
 ·have el:(aY t u).Log=t.Log++(dX t.aA t.aR u (aD t u)).l:=by rw[e1];rfl
  rw[el,aFH,o7];rcases uH t.aA t.aR u (aD t u) hpc with ⟨_,_,_,k|k⟩|⟨p,_,k⟩
  ·rw[k];simpa using I.pu
  ·have p7:=(bAL k).1;rw[k];refine aOI.2 ⟨I.pu,ae,λa ha b hb=>?_⟩;simp at hb;obtain⟨x,hx,ex⟩:=AU.1 ha;obtain⟨hx1,hx2⟩:=V8.1 hx;intro z;have:=(I.pt x hx1 ak).2 u hu hB aa;omega
  ·rw[k];have:([tlE u (aD t u)].filter λx:mT=>x.Kind == 2)=[]:=by simp[tlE]
   rw[this];simpa using I.pu
 ·intro x hx kx;rw[e1] at hx;rcases dD.1 hx with hx|hx
  ·exact I.cv x hx kx
  ·rcases uH t.aA t.aR u (aD t u) hpc with ⟨_,_,_,k|k⟩|⟨p,_,k⟩<;>rw[k] at hx
   ·cases hx
   ·rw[jJ.1 hx] at kx;cases kx
   ·rw[jJ.1 hx] at kx;cases kx
end
def cmE(e:Table)(s:Int):List iP:=(e.Log.getD (aL7 e.Log 1 s).toNat ⟨0,0,0,0,[],[]⟩).bK
theorem aMU{l m:List mT}(el:e.Log=l++m){P:List iP->Prop}(h:TlJ l s P):0<=aL7 e.Log 1 s/\P (cmE e s):=by
 obtain⟨x,hx,k,es⟩:=h.call;have hlt:l.findIdx (isE 1 s)<l.length:=bFK ⟨x,hx,by grind[isE]⟩;have ef:(l++m).findIdx (isE 1 s)=l.findIdx (isE 1 s):=ak
 have ep:aL7 (l++m) 1 s=aL7 l 1 s:=by unfold aL7;grind
 grind[bAC,a89,cmE]
theorem bE9(r:Rn t e)(h:Bz n t)(hw:eO w)(hB:(aD t w).bO=true):cmE e (aD t w).aG=(aD t w).Batch.bK:=by obtain⟨m,el⟩:=r.log;exact(aMU el (h.pl.1.job w hw hB).2).2
section
variable {F:Int->Bool} {cm:Int->List iP} {n:Int} {t:Table} {u:Int} (hu:eO u) (h:Bz n t) {c:Int->List Int} {q:Int->Nat} (sv:sK Ky7 t.aA t.aR c q (aD t)) (I:IvC F cm t c)
include hu h sv I
theorem IvC.begin(hn:aD t u=cG){x:Batch}(hx:x∈mF t u)(ej:∀v,eO v->aD (qQ t u x) v=zS (aD t) u (gY x (t.aG+1)) v):sK Ky7 (qQ t u x).aA (qQ t u x).aR c q (aD (qQ t u x))/\IvC F cm (qQ t u x) c:=by
 obtain⟨_,q0,hs⟩:=h.pl;have hJ:∀v,eO v->(aD t v).bO=true->JB (aD t v):=λv hv hb=>h.jb hv hb;have ew:aD (qQ t u x) u=gY x (t.aG+1):=by grind[gZ]
 have eo:∀v,eO v->v≠u->aD (qQ t u x) v=aD t v:=λv hv hn=>by grind[qS]
 have hd:∀v i,eO v->nY i->(Holds F (qQ t u x) v i↔Holds F t v i):=λv i hv hi=>by
  by_cases z:v=u
  ·subst z;have nl:(dL t.aR i).dU≠v+1:=λy=>by have:=(zT h hv hi y).1;rw[hn] at this;cases this
   exact⟨λk=>absurd k.1 nl,λk=>absurd k.1 nl⟩
  ·unfold Holds;rw[eo v hv z];exact Iff.rfl
 have cl:∀i,nY i->(Clr F (qQ t u x) i↔Clr F t i):=λi hi=>⟨λk v hv a=>k v hv ((hd v i hv hi).2 a),λk v hv a=>k v hv ((hd v i hv hi).1 a)⟩;have hp:pts F (qQ t u x).Log=pts F t.Log:=by show pts F (t.Log++_)=_;grind[a1O,bAJ]
 have em:MT F cm (qQ t u x)=MT F cm t:=by grind[MT]
 have er:RT F cm (qQ t u x)=RT F cm t:=by unfold RT;rw[hp]
 have npc:(gY x (t.aG+1)).Pc=0\/(gY x (t.aG+1)).Pc=20:=by unfold gY;simp only;split<;>simp
 have new:∀y∈(qQ t u x).Log,y.Kind≠1->y∈t.Log:=λy hy k=>by
  rcases dD.1 hy with hy|hy
  ·exact hy
  ·rw[jJ.1 hy] at k;exact absurd rfl k
 refine⟨(aVA sv hs.lk hu h.v.base.1.2.1 hJ hn (hs.qk u hu x hx) _).congr ej,λi hi k=>?_,λi hi v hv k=>?_,λw hw hb hc a=>?_,λw hw hb a b=>?_,λw hw hb a b d hcl=>?_,λy hy k a b=>?_,λy hy k=>?_,?_,λy hy k=>?_⟩
 ·rw[em];exact I.free i hi ((cl i hi).1 k)
 ·have k':=(hd v i hv hi).1 k;have z:v≠u:=λz=>by have:=k'.2.2;rw[z,hn] at this;exact absurd this ai
  rw[em,eo v hv z];exact I.held i hi v hv k'
 ·by_cases z:w=u
  ·rw[z,ew];exact⟨[],λM _=>rfl,λg hg=>by cases hg⟩
  ·rw[eo w hw z] at hb hc a ⊢;obtain⟨G,d,g⟩:=I.job w hw hb hc a;refine⟨G,d,λy hy=>?_⟩;obtain⟨s,hs,hsb,hk⟩:=g y hy;exact⟨s,hs,hsb,λa b=>by rw[em];exact hk a ((cl _ ((h.jb hw hb).reads.1 s hs)).1 b)⟩
 ·by_cases z:w=u
  ·grind
  ·rw[eo w hw z] at hb a b ⊢;obtain⟨i1,i2⟩:=I.walk w hw hb a b;exact⟨i1,i2.mono λp=>⟨⟨p.1,(cl _ (h.jb hw hb).bkt).1 p.2⟩,rfl,λ_ _=>rfl⟩⟩
 ·by_cases z:w=u
  ·grind
  ·rw[eo w hw z] at hb a b d hcl ⊢;rw[er];exact I.res w hw hb a b d hcl
 ·rw[er];exact I.tel y (new y hy aa) k a b
 ·have hm:=new y hy aa;obtain⟨p1,p2⟩:=I.pt y hm k;refine⟨p1,λv hv hb es=>?_⟩;by_cases z:v=u
  ·rw[z,ew] at es;have:=h.lg.le y hm;have es:t.aG+1=y.aG:=es;omega
  grind
 ·show((t.Log++[_]).filter _ |>.map _).Nodup;rw[aFH];simpa using I.pu
 ·rcases dD.1 hy with hy|hy
  ·exact I.cv y hy k
  ·rw[jJ.1 hy];have hq:QuV ⟨mF t u⟩:=by
    have hi:u.toNat<t.eE.length:=by have:=h.v.todo.1;omega
    have e:(⟨mF t u⟩:aN)=t.eE[u.toNat]:=by simp_all[mF]
    rw[e];exact h.v.todo.2 _ (cY hi)
   have:=hq.2 x hx;exact⟨this.2.1,this.2.2.1⟩
end
theorem bJF(r:Rn t e)(he:∀v,eO v->(aD e v).bO=false)(h:Bz n t)(k:∃c q,sK Ky7 t.aA t.aR c q (aD t)/\IvC (wU e) (cmE e) t c):Bz n e/\∃c q,sK Ky7 e.aA e.aR c q (aD e)/\IvC (wU e) (cmE e) e c:=by
 induction r with
 |refl=>grind
 |step hu r ih=>
  rename_i t e u;refine ih he (h.step hu) ?_;obtain⟨c,q,sv,I⟩:=k;by_cases hB:(aD t u).bO=true
  ·exact I.bL1 hu r he h hB (λw hw hb=>bE9 (.step hu r) h hw hb) sv
  ·obtain⟨hn,z|⟨x,hx,z,ej⟩⟩:=yP h hu hB
   ·grind
   ·rw[z] at ej ⊢;obtain⟨a,b⟩:=I.begin hu h sv hn hx ej;grind
theorem bz0(hd:ZM l)(ht:SJ l):Bz (ME (NX (cC l))) (cC l):=by
 refine⟨aPK ht,⟨.zero rfl,_,bJC hd ht⟩,.zero l,λi hi k=>?_,λw hw s hs=>?_,λx hx=>by cases hx⟩
 ·rcases(by omega:i=0\/i=1) with rfl|rfl<;>exact absurd rfl k
 ·rcases(by omega:w=0\/w=1\/w=2) with rfl|rfl|rfl<;>cases hs
theorem iv0{F:Int->Bool}{cm:Int->List iP}(hd:ZM l)(ht:SJ l):∃c q,sK Ky7 (cC l).aA (cC l).aR c q (aD (cC l))/\IvC F cm (cC l) c:=by
 obtain⟨c,sv⟩:=(bJC hd ht).sv;have hb:∀i,nY i->dL (cC l).aR i=⟨0,0,0⟩:=λi hi=>by rcases(by omega:i=0\/i=1) with rfl|rfl<;>rfl
 have hj:∀w,eO w->aD (cC l) w=cG:=λw hw=>by rcases(by omega:w=0\/w=1\/w=2) with rfl|rfl|rfl<;>rfl
 have nb:∀{P:Prop} {w:Int},eO w->(aD (cC l) w).bO=true->P:=λhw b=>by rw[hj _ hw] at b;cases b
 refine⟨c,_,sv,λi hi _ k hk=>?_,λi hi v hv k=>?_,λw hw b=>nb hw b,λw hw b=>nb hw b,λw hw b=>nb hw b,λx hx=>(by cases hx),λx hx=>(by cases hx),List.nodup_nil,λx hx=>(by cases hx)⟩
 ·have hc:=sv.ch i hi;rw[hb i hi] at hc
  match c i,hc with
  |[],_=>rfl
  |x::r,hc=>exact absurd hc.1.symm hc.2.1.ne
 ·have:=k.1;grind
theorem bL2(hd:ZM l)(ht:SJ l)(p:List Int)(hp:p.length<=400)(ee:e=SM 3000 0 (K9 (cC l) p)):(nB (K9 (cC l) p)=some e/\(∀w,eO w->VR e w)/\e.Log.length<=3400)/\Bz (ME (NX (cC l))) e/\∃c q,sK Ky7 e.aA e.aR c q (aD e)/\IvC (wU e) (cmE e) e c/\∀i,nY i->∀k,jD k=i->MT (wU e) (cmE e) e k=lkp e.aA.Mem (c i) k:=by
 obtain⟨e1,hi,v,_,hl⟩:=bN2 hd ht p hp;rw[<-ee] at e1 hi v hl;have hid:=(aVK v).1 hi;have he:∀v,eO v->(aD e v).bO=false:=λv hv=>(hid v hv).1;have r:Rn (cC l) e:=by rw[ee];exact(aR9 p _).trans (aYQ 3000 0 _)
 obtain⟨hz,c,q,sv,I⟩:=bJF r he (bz0 hd ht) (iv0 hd ht);refine⟨⟨e1,hid,hl⟩,hz,c,q,sv,I,λi hi k hk=>I.free i hi (λv hv a=>?_) k hk⟩;have:=(zT hz hv hi a.1).1;grind
def MG(L:List KV):NY:=λk=>(L.find? λx=>x.Key == k).map KV.dI
structure KW (L:List KV):Prop where
 srt:L.Pairwise λx y=>x.Key<y.Key
 rng:∀x∈L,(0<=x.Key/\x.Key<=99)/\0<=x.dI/\x.dI<=65535
theorem KW.len(h:KW L):L.length<=100:=by
 have:=yN (l:=L.map KV.Key) (m:=(List.range 100).map Int.ofNat) (by
  unfold List.Nodup;exact List.pairwise_map.2 (h.srt.imp λa b=>aa)) λx hx=>by
  obtain⟨y,hy,rfl⟩:=AU.1 hx;have:=(h.rng y hy).1;exact AU.2 ⟨y.Key.toNat,List.mem_range.2 aa,ah⟩
 grind
theorem BR(x:KV)(L:List KV)(k:Int):MG (x::L) k=if x.Key=k then some x.dI else MG L k:=by unfold MG;grind
theorem aMV{k:Int}(h:∀x∈L,x.Key≠k):MG L k=none:=by grind[MG]
theorem KW.tail{x:KV}(h:KW (x::L)):KW L/\∀y∈L,x.Key<y.Key:=⟨⟨(aBR.1 h.srt).2,λy hy=>h.rng y (lD _ hy)⟩,(aBR.1 h.srt).1⟩
theorem bAN:∀{L M:List KV},KW L->KW M->MG L=MG M->L=M
 |[],[],_,_,_=>rfl
 |[],y::M,_,_,e=>by have:=congrFun e y.Key;rw[BR,aO rfl] at this;cases this
 |x::L,[],_,_,e=>by have:=congrFun e x.Key;rw[BR,aO rfl] at this;cases this
 |x::L,y::M,h,k,e=>by
  obtain⟨h1,h2⟩:=h.tail;obtain⟨k1,k2⟩:=k.tail;have ex:=congrFun e x.Key;have ey:=congrFun e y.Key;rw[BR,BR,aO rfl] at ex;rw[BR,BR,aO rfl] at ey;have hk:x.Key=y.Key:=Classical.byContradiction λz=>by
   rcases(by omega:x.Key<y.Key\/y.Key<x.Key) with q|q
   ·rw[gT,aMV λa ha=>ak] at ex;cases ex
   ·rw[gT,aMV λa ha=>ak] at ey;cases ey
  rw[aO hk.symm] at ex;have hx:x=y:=by obtain⟨a,b⟩:=x;simp_all
  rw[hx,bAN h1 k1 (funext λz=>by
   by_cases q:z=x.Key
   ·grind[aMV]
   ·have:=congrFun e z;rw[BR,BR,aP λy=>q y.symm,gT] at this;exact this)]
theorem a1R(h:KW L)(k:Int):KW (L.filter λx=>!(x.Key == k))/\MG (L.filter λx=>!(x.Key == k))=upM (MG L) k none:=by
 refine⟨⟨h.srt.sublist aOG,λx hx=>h.rng x (V8.1 hx).1⟩,funext λz=>?_⟩;unfold upM;by_cases q:z=k
 ·simp_all[aMV]
 ·rw[aP q];grind[MG]
theorem bAO{k:Int}:∀{D:List KV},D.Pairwise (λx y=>x.Key<y.Key)->(∀x∈D,x.Key≠k)->(∀x∈D.takeWhile (λx=>!decide (k<x.Key)),x.Key<k)/\∀x∈D.dropWhile (λx=>!decide (k<x.Key)),k<x.Key
 |[],_,_=>⟨λx hx=>(by cases hx),λx hx=>(by cases hx)⟩
 |y::D,hs,hn=>by
  obtain⟨h1,h2⟩:=aBR.1 hs;have hy:=hn y (aBQ ..);by_cases q:k<y.Key
  ·grind[List.takeWhile_cons_of_neg,List.dropWhile_cons_of_neg]
  ·obtain⟨i1,i2⟩:=bAO h2 λx hx=>hn x (lD _ hx)
   (simp_all;omega)
theorem aSC(h:KW L){k v:Int}(hk:0<=k/\k<=99)(hv:0<=v/\v<=65535):KW (mpF L k v)/\MG (mpF L k v)=upM (MG L) k (some v):=by
 obtain⟨d1,d2⟩:=a1R h k;have hne:∀x∈L.filter λx=>!(x.Key == k),x.Key≠k:=λx hx=>ak
 unfold mpF;generalize (L.filter λx=>!(x.Key == k))=D at d1 d2 hne;have e:=aSS (p:=λx:KV=>!decide (k<x.Key)) (l:=D);obtain⟨ht,hd⟩:=bAO d1.srt hne;refine⟨⟨?_,λx hx=>?_⟩,funext λz=>?_⟩
 ·have hs:=d1.srt;grind[aBR]
 ·rcases dD.1 hx with hx|hx
  ·exact d1.rng x ((List.takeWhile_sublist _).subset hx)
  ·rcases j6.1 hx with rfl|hx
   ·grind
   ·exact d1.rng x ((List.dropWhile_sublist _).subset hx)
 ·unfold upM;by_cases q:z=k
  ·rw[aO q,q];grind[MG]
  ·rw[aP q];have hz:(k == z)=false:=ak
   have:MG D z=MG L z:=by rw[d2];exact aP q
   grind[MG]
theorem bJG{a b:Int}(ha:0<=a/\a<=65535)(hb:0<=b/\b<=65535):0<=BQ a b/\BQ a b<=65535:=by grind[BQ,cO]
theorem bAP(h:KW L)(k:Int):0<=(MG L k).getD 0/\(MG L k).getD 0<=65535:=by
 unfold MG;cases e:L.find? λx=>x.Key == k with
 |none=>simp
 |some x=>exact(h.rng x (List.mem_of_find?_eq_some e)).2
theorem a1S(cm:Int->List iP)(p:List Int):(rpS cm p).2.map Prod.fst=p:=by
 have:∀(p:List Int) (a:NY×List (Int×List fY)),(p.foldl (rpF cm) a).2.map Prod.fst=a.2.map Prod.fst++p:=λp=>by
  induction p with
  |nil=>simp
  |cons s p ih=>grind[rpF]
 exact this p _
theorem a4G(l:List iP):∀M:NY,(wO M l).2.length=l.length:=by
 induction l with
 |nil=>intro _;rfl
 |cons c l ih=>grind[wO]
theorem aVY(h:Bz n t){c:Int->List Int}{q:Int->Nat}(sv:sK Ky7 t.aA t.aR c q (aD t)):KW (a4C t.aA.Mem c)/\∀k,MG (a4C t.aA.Mem c) k=((lkp t.aA.Mem (c 1) k).or (lkp t.aA.Mem (c 0) k)):=by
 have one:∀(l:List Int) (a:List KV),KW a->(∀x∈l,aBH (cJ t.aA.Mem x))->KW (chF t.aA.Mem l a)/\∀k,MG (chF t.aA.Mem l a) k=(lkp t.aA.Mem l k).or (MG a k):=λl=>by
  induction l with
  |nil=>intro a ha _;exact⟨ha,λk=>rfl⟩
  |cons x l ih=>
   intro a ha hx;obtain⟨i1,i2⟩:=ih a ha λy hy=>hx y (lD _ hy);have nx:=hx x (aBQ ..);obtain⟨p1,p2⟩:=aSC i1 nx.1 nx.2.1;refine⟨p1,λk=>?_⟩;show MG (mpF (chF t.aA.Mem l a) _ _) k=_;rw[p2];unfold upM lkp;rw[List.find?_cons];by_cases z:k=(cJ t.aA.Mem x).Key
   ·grind
   ·rw[aP z,i2,show((cJ t.aA.Mem x).Key == k)=false by grind];rfl
 have nd:∀i,nY i->∀x∈c i,aBH (cJ t.aA.Mem x):=λi hi x hx=>((sv.ch i hi).all x hx).2;obtain⟨a1,a2⟩:=one (c 0) [] ⟨List.Pairwise.nil,λx hx=>by cases hx⟩ (nd 0 (by simp[nY]));obtain⟨b1,b2⟩:=one (c 1) (chF t.aA.Mem (c 0) []) a1 (nd 1 (by simp[nY]));refine⟨b1,λk=>?_⟩;show MG (chF _ _ _) k=_;grind[MG]
theorem bAQ(h:Bz n t){c:Int->List Int}{q:Int->Nat}(sv:sK Ky7 t.aA t.aR c q (aD t))(hL:KW L)(hm:∀i,nY i->∀k,jD k=i->MG L k=lkp t.aA.Mem (c i) k):L=a4C t.aA.Mem c:=by
 obtain⟨m1,m2⟩:=aVY h sv;refine bAN hL m1 (funext λk=>?_);rw[m2];have miss:∀i,nY i->jD k≠i->lkp t.aA.Mem (c i) k=none:=λi hi z=>aMI λa ha y=>by have:=((sv.key i hi).2 _ (AU.2 ⟨a,ha,rfl⟩)).1;grind
 by_cases h0:jD k=0
 ·grind
 ·rw[miss 0 (by simp[nY]) h0,Option.or_none];by_cases h1:jD k=1
  ·grind
  ·rw[miss 1 (by simp[nY]) h1];refine aMV λx hx y=>?_;have:=(hL.rng x hx).1;rw[y] at this;unfold jD at h0 h1;omega
theorem bFA{l:List KV}(hl:l.length<=1000):LZ l l=some true:=by
 unfold LZ;rw[gJ];have key:loop (uW l l) 0=some (Out.brk ()):=iS (f:=uW l l) l.length (λk=>(k:Int)) _ (λk hk=>by
  simp only[uW];rw[eK,aW hk,aM,aM,gJ,eG];rfl) (by simp[uW])
 rw[key];rfl
theorem bAR(hl:L.length<=1000)(k:Int):O0 L k=some ((MG L k).getD 0,(MG L k).isSome):=by
 have key:∀(r a:List KV),L=a++r->loop (xU L k) (a.length:Int)=some (match MG r k with|some v=>.ret (v,true)|none=>.brk ()):=λr=>by
  induction r with
  |nil=>
   intro a e;refine bA ?_;simp only[xU];rw[aP (by rw[e];simp)];rfl
  |cons x r ih=>
   intro a e;have hi:a.length<L.length:=by rw[e];simp
   have ex:L[a.length]=x:=by simp[e]
   by_cases q:x.Key=k
   ·refine bA ?_;simp only[xU];rw[eK,aW hi,aM,ex,aO (by simpa using q),aM,BR,aO q]
   ·rw[bM (s':=((a++[x]).length:Int)) (by
     simp only[xU];rw[eK,aW hi,aM,ex,aP (by simpa using q),eG];simp),ih (a++[x]) (by rw[e];simp),BR,aP q]
 unfold O0;have:=key L [] rfl;rw[show(([]:List KV).length:Int)=0 from rfl] at this;rw[this];cases MG L k<;>rfl
theorem bL3{code:List UInt8}(hl:code.length<=1048576)(hi:0<=i/\i<=1000):∃a,aIK code i=some a/\0<=a/\a<=255:=by
 unfold aIK;by_cases h0:i<code.length
 ·rw[aO (by simpa using h0),gP hi.1 h0,aM];refine⟨_,rfl,aa,?_⟩;have:=(code[i.toNat]' aa).toNat_lt;omega
 ·rw[aP (by simpa using h0)];refine⟨_,rfl,?_⟩;rw[eG (x:=i*37),eG (x:=(code.length:Int)*11),eG,aSP aa];omega
structure AJ (c:aC) (k:List bR) (w:Int) (j:aI):Prop where
 rd:j.Pc<=8->∀s∈j.Reads,(dL k s.bR).eB=s.eB
 vr:3<=j.Pc/\j.Pc<=5->(dL k j.bR).eB=j.eB
 pn:j.bO=true->1<=j.Pc/\j.Pc<=17->jI c w
 p0:j.bO=true->j.Pc=0->j.Sub.Kind=5/\j.Sub.gK=false/\(0<=j.Sub.Pc/\j.Sub.Pc<=2)/\(j.Sub.Pc=1->0<=j.Sub.E/\j.Sub.E<=c.aK)/\(j.Sub.Pc=2->jI c w)
 hl:j.Pc=7->∀x∈j.bD,x∈(m0 j.aH).take j.K.toNat
 cd:j.Code≠6/\j.Code≠7
theorem a1T(c:aC)(k:List bR)(w:Int):AJ c k w cG:=⟨λ_ s h=>(by cases h),λh=>(by grind[cG]),λh=>(by cases h),λh=>(by cases h),λh=>(by cases h),by simp[cG]⟩
theorem bFB{b:aA}{s:Sub}(hk:s.Kind=1)(h0:s.gK=false)(hd:(gQ b w s).2.gK=true):(gQ b w s).2.Code≠6/\(gQ b w s).2.Code≠7:=by
 have e:gQ b w s=QJ b w s:=by simp_all[gQ]
 grind[KT,vI,QJ]
section
variable {b:aA} {k:List bR} {w:Int} {j:aI} (hb:mP b) (hw:eO w) (h2:k.length=2) (hj:JB j) (lk:YG k w j) (ho:∀i,nY i->(dL k i).dU=0\/(dL k i).dU=w+1) (h:AJ b.aC k w j)
include hb hw h2 hj lk ho h
theorem a1U{i:Int}(hi:nY i)(hn:i∉j.bD):(dL k i).dU=0:=by
 rcases ho i hi with q|q
 ·exact q
 ·exact absurd ((lk.iff i hi).2 q) hn
theorem bFC(hp:j.Pc=0):AJ (lC b w j).1.aC k w (lC b w j).2:=by
 obtain⟨k5,d0,pc,q1,q2⟩:=h.p0 hj.busy hp;have e:gQ b w j.Sub=qO b w j.Sub:=by grind[gQ]
 have hc:b.aC.cE.length=3:=hb.1.2.1.2.1;have he:0<=b.aC.aK:=hb.1.2.1.1.1;have hat:∀e,jI (⟨b.aC.aK,b.aC.cE.set w.toNat ⟨true,e,false,0⟩⟩:aC) w:=λe=>by grind[jI,cS]
 have rd:=h.rd;have cd:=h.cd;unfold lC;rw[e];rcases(by omega:j.Sub.Pc=0\/j.Sub.Pc=1\/j.Sub.Pc=2) with p|p|p
 ·have es:qO b w j.Sub=(b,{j.Sub with Pc:=1,E:=b.aC.aK}):=by simp_all[qO]
  rw[es];simp only[d0,bQ];exact⟨h.rd,h.vr,λ_ z=>ak,λ_ _=>⟨k5,rfl,ae,λ_=>⟨he,I3 _⟩,λz=>by simp at z⟩,λz=>ak,cd⟩
 ·obtain⟨e0,e1⟩:=q1 p;have es:qO b w j.Sub=({b with aC:=⟨b.aC.aK,b.aC.cE.set w.toNat ⟨true,j.Sub.E,false,0⟩⟩},{j.Sub with Pc:=2}):=by simp_all[NT,qO]
  rw[es];simp only[d0,bQ];exact⟨h.rd,h.vr,λ_ z=>ak,λ_ _=>⟨k5,rfl,ae,λz=>by simp at z,λ_=>hat _⟩,λz=>ak,cd⟩
 ·by_cases z:b.aC.aK=j.Sub.E
  ·have es:qO b w j.Sub=(b,vI j.Sub 0):=by simp_all[qO]
   rw[es];have:(vI j.Sub 0).gK=true:=rfl;simp only[this,hp,bQ,Bool.true_eq_false,bS];exact⟨λ_=>h.rd aa,λz=>by simp at z,λ_ _=>q2 p,λ_ z=>by simp at z,λz=>by simp at z,cd⟩
  ·have es:qO b w j.Sub=(b,{j.Sub with Pc:=0}):=by simp_all[qO]
   rw[es];simp only[d0,bQ];exact⟨h.rd,h.vr,λ_ z=>ak,λ_ _=>⟨k5,rfl,ae,λz=>by simp at z,λz=>by simp at z⟩,λz=>ak,cd⟩
theorem bFD(hp:j.Pc=1):AJ b.aC k w (oA j):=by
 have rd:=h.rd aa;have pn:=h.pn hj.busy aa;have cd:=h.cd;have hr:∀x,(kH j x).2.Reads=j.Reads/\((kH j x).2.Pc=1\/(kH j x).2.Pc=16)/\(kH j x).2.Code≠6/\(kH j x).2.Code≠7:=λx=>by grind[kH,nZ]
 have ha:∀c v is,(lL j c v is).Reads=j.Reads/\((lL j c v is).Pc=1\/(lL j c v is).Pc=16)/\(lL j c v is).Code≠6/\(lL j c v is).Code≠7:=λc v is=>by grind[lL,SI,SH]
 have Z:∀{j':aI},j'.Reads=j.Reads->(j'.Pc=1\/j'.Pc=2\/j'.Pc=6\/j'.Pc=16)->(j'.Code≠6/\j'.Code≠7)->AJ b.aC k w j':=λe p c=>⟨λ_=>ak,λz=>aa,λ_ _=>pn,λ_ z=>aa,λz=>aa,c⟩;grind[oA]
theorem bFE(hc:sM j)(hp:2<=j.Pc/\j.Pc<=5):AJ b.aC k w (iB b k w j):=by
 have rd:=h.rd aa;have pn:=h.pn hj.busy aa;have cd:=h.cd;have hh:j.bD=[]:=lk.none (by grind[qR]);have l0:(dL k j.bR).dU=0:=a1U hb hw h2 hj lk ho h hj.bkt ak;have Z:∀{j':aI},j'.Reads=j.Reads->(3<=j'.Pc/\j'.Pc<=5)->j'.bR=j.bR->j'.eB=(dL k j.bR).eB->j'.Code=j.Code->AJ b.aC k w j':=λe p eb ev ec=>⟨λ_=>ak,λz=>by rw[eb,ev],λ_ _=>pn,λ_ z=>aa,λz=>aa,aa⟩;unfold iB;by_cases p2:j.Pc=2
 ·grind
 have vr:=h.vr aa;rw[aP p2];by_cases p3:j.Pc=3
 ·grind
 rw[aP p3];by_cases p4:j.Pc=4
 ·rw[aO p4,aP (by grind[jI]),aO hc];grind
 rw[aP p4,gT];have ok:(nS j.Reads j.bR j.eB).2=true/\∀s∈(nS j.Reads j.bR j.eB).1,(dL k s.bR).eB=s.eB:=by grind[nS]
 rw[aP ak,aO hc];generalize (nS j.Reads j.bR j.eB).1=R at ok ⊢;have hr:∀x,(kH {j with Reads:=R} x).2.Reads=R/\(kH {j with Reads:=R} x).2.Code≠6/\(kH {j with Reads:=R} x).2.Code≠7/\((kH {j with Reads:=R} x).1=false->(kH {j with Reads:=R} x).2.Pc=16):=λx=>by grind[kH,nZ]
 have ha:∀c v is,(lL {j with Reads:=R} c v is).Reads=R/\((lL {j with Reads:=R} c v is).Pc=1\/(lL {j with Reads:=R} c v is).Pc=16)/\(lL {j with Reads:=R} c v is).Code≠6/\(lL {j with Reads:=R} c v is).Code≠7:=λc v is=>by
  unfold lL;split
  ·generalize (if is then v else 0)=u;unfold SI;have:=hr ⟨c.Key,false,BQ u c.dI⟩;cases q:(kH {j with Reads:=R} ⟨c.Key,false,BQ u c.dI⟩).1
   ·grind
   ·exact⟨this.1,.inl rfl,this.2.1,this.2.2.1⟩
  ·exact⟨rfl,.inl rfl,cd⟩
 obtain⟨a1,a2,a3⟩:=ha (cH j) j.Node.dI j.Found;exact⟨λ_=>ak,λz=>aa,λ_ _=>pn,λ_ z=>aa,λz=>aa,a3⟩
theorem bJH(sb:SbJ b w j)(hp:j.Pc=6):AJ (qP b w j).1.aC k w (qP b w j).2:=by
 have rd:=h.rd aa;have pn:=h.pn hj.busy aa;have cd:=h.cd;have hh:j.bD=[]:=lk.none (by grind[qR]);obtain⟨k1,d0,_⟩:=sb.al hp;have ec:=DJ (b:=b) (w:=w) (s:=j.Sub) (.inl k1);have cs:=bFB (b:=b) (w:=w) k1 d0;unfold qP;split
 ·exact⟨λ_=>rd,λz=>by simp at z,λ_ _=>pn,λ_ z=>by simp at z,λ_ x hx=>ak,cd⟩
 simp only;rw[ec];split
 ·exact⟨λ_=>rd,λz=>ak,λ_ _=>pn,λ_ z=>ak,λz=>ak,cd⟩
 ·rename_i q;split
  ·exact⟨λz=>by simp[nZ] at z,λz=>by simp[nZ] at z,λ_ _=>pn,λ_ z=>by simp[nZ] at z,λz=>by simp[nZ] at z,cs ak⟩
  ·exact⟨λ_=>rd,λz=>ak,λ_ _=>pn,λ_ z=>ak,λz=>ak,cd⟩
theorem bJI(hp:j.Pc=7):AJ b.aC (mQ k w j).1 w (mQ k w j).2.1:=by
 have rd:=h.rd aa;have pn:=h.pn hj.busy aa;have cd:=h.cd;have hl:=h.hl hp;have hK:=hj.k;have hn:=aXL j.aH;unfold mQ;split
 ·rename_i q;have hi:j.K.toNat<(m0 j.aH).length:=aa
  have em:eV j=(m0 j.aH)[j.K.toNat]:=by grind[eV]
  have hb2:nY (eV j):=by grind[NQ,cY]
  have nh:eV j∉j.bD:=λm=>by have m2:=hl _ m;grind[QP,aYY]
  have l0:=a1U hb hw h2 hj lk ho h hb2 nh;have any:(j.Reads.any λs=>s.bR == eV j && s.eB != (dL k (eV j)).eB)=false:=ak
  rw[aP ak];have ver:∀s∈j.Reads,(dL (k.set (eV j).toNat {dL k (eV j) with dU:=w+1}) s.bR).eB=s.eB:=λs hs=>by rw[qC h2 hb2 (hj.reads.1 s hs)];grind
  split
  ·exact⟨λz=>by simp[nZ] at z,λz=>by simp[nZ] at z,λ_ _=>pn,λ_ z=>by simp[nZ] at z,λz=>by simp[nZ] at z,by simp[nZ]⟩
  split
  ·exact⟨λ_=>ver,λz=>by simp at z,λ_ _=>pn,λ_ z=>by simp at z,λz=>by simp at z,cd⟩
  ·refine⟨λ_=>ver,λz=>by grind[D4],λ_ _=>pn,λ_ z=>by grind[D4],λ_ x hx=>?_,cd⟩;have et:(j.K+1).toNat=j.K.toNat+1:=aa
   simp only[D4] at hx ⊢;rw[aP nh] at hx;grind[I6]
 ·exact⟨λ_=>rd,λz=>by simp at z,λ_ _=>pn,λ_ z=>by simp at z,λz=>by simp at z,cd⟩
theorem bJJ(hp:j.Pc=8):AJ b.aC k w (GU k w j):=by
 have rd:=h.rd aa;have pn:=h.pn hj.busy aa;have cd:=h.cd;have hK:=hj.k;unfold GU;split
 ·exact⟨λz=>by simp at z,λz=>by simp at z,λ_ _=>pn,λ_ z=>by simp at z,λz=>by simp at z,cd⟩
 ·rename_i q;have hi:j.K.toNat<j.Reads.length:=aa
  have em:rdN j=j.Reads[j.K.toNat]:=by grind[rdN]
  have m:rdN j∈j.Reads:=ak
  have:=ho _ (hj.reads.1 _ m);rw[aP ak];exact⟨λ_=>rd,λz=>ak,λ_ _=>pn,λ_ z=>ak,λz=>ak,cd⟩
theorem bJK(hp:9<=j.Pc/\j.Pc<=13):AJ (jH b k j).1.aC (jH b k j).2.1 w (jH b k j).2.2:=by
 have pn:=h.pn hj.busy aa;have cd:=h.cd;have key:(jH b k j).1.aC=b.aC/\(9<=(jH b k j).2.2.Pc/\(jH b k j).2.2.Pc<=16)/\(jH b k j).2.2.Code≠6/\(jH b k j).2.2.Code≠7:=by
  have pl:∀(j1:aI) (x:aU),(I1 j1 x).Pc=9\/(I1 j1 x).Pc=12:=λj1 x=>by grind[I1]
  have pc:∀(j1:aI) (x:aU),(I1 j1 x).Code=j1.Code:=λj1 x=>by grind[I1]
  have oc:(J3 j).Code=j.Code:=by grind[J3]
  unfold jH;grind[nZ]
 exact⟨λz=>aa,λz=>aa,λ_ _=>ak,λ_ z=>aa,λz=>aa,key.2.2⟩
theorem bFF(sb:SbJ b w j)(hp:14<=j.Pc/\j.Pc<=21):AJ (dX b k w j).b.aC (dX b k w j).k w (dX b k w j).j:=by
 have cd:=h.cd;have Z:∀{r:TR},(r.j.Pc=14\/r.j.Pc=15\/r.j.Pc=16\/r.j.Pc=17->j.Pc<=17/\r.b.aC=b.aC)->14<=r.j.Pc->r.j.Code=j.Code->AJ r.b.aC r.k w r.j:=λ{r} e p c=>⟨λz=>aa,λz=>aa,λ_ z=>by
  obtain⟨a,b⟩:=e aa;rw[b];exact h.pn hj.busy aa,λ_ z=>aa,λz=>aa,by rw[c];exact cd⟩
 rcases(by omega:(j.Pc=14\/j.Pc=16)\/j.Pc=15\/j.Pc=17\/j.Pc=18\/j.Pc=19\/(j.Pc=20\/j.Pc=21)) with p|p|p|p|p|p
 ·have e:dX b k w j=⟨b,(wR k j).1,(wR k j).2,[]⟩:=by grind[dX]
  rw[e];refine Z (λ_=>⟨aa,rfl⟩) ?_ ?_<;>grind[wR,G4]
 ·have e:dX b k w j=⟨(wS b w j).1,k,(wS b w j).2,[]⟩:=by grind[dX]
  rw[e];have ec:(wS b w j).1.aC=b.aC:=by
   unfold wS;split
   ·rfl
   ·exact DJ (.inr (.inl (sb.rt p aa).2.1))
  refine Z (λ_=>⟨aa,ec⟩) ?_ ?_<;>grind[wS,G4]
 ·have e:dX b k w j=⟨(wT b w j).1,k,(wT b w j).2,[]⟩:=by grind[dX]
  rw[e];have ec:(wT b w j).1.aC=b.aC:=by unfold wT;grind
  refine Z (λ_=>⟨aa,ec⟩) ?_ ?_<;>grind[wT]
 ·have e:dX b k w j=⟨{b with aC:=(H6 b.aC w).1},k,{j with Pc:=19},[]⟩:=by grind[dX]
  rw[e];exact Z (λz=>by simp at z) ae rfl
 ·have e:(dX b k w j).j=cG:=by unfold dX;simp only[p];rfl
  rw[e];exact a1T _ _ _
 ·have e:dX b k w j=⟨(lC b w j).1,k,(lC b w j).2,[]⟩:=by grind[dX]
  rw[e];have q:19<=(lC b w j).2.Pc/\(lC b w j).2.Code=j.Code:=by grind[lC]
  exact Z (λz=>by simp only at z;omega) (by simp only;omega) q.2
theorem bL4{Ky:List Int}{c:Int->List Int}{q:Nat}(tw:TW Ky b.Mem k c q j)(sb:SbJ b w j):AJ (dX b k w j).b.aC (dX b k w j).k w (dX b k w j).j:=by
 have hpc:=tw.pc;rcases(by omega:j.Pc=0\/j.Pc=1\/(2<=j.Pc/\j.Pc<=5)\/j.Pc=6\/j.Pc=7\/j.Pc=8\/(9<=j.Pc/\j.Pc<=13)\/(14<=j.Pc/\j.Pc<=21)) with p|p|p|p|p|p|p|p
 ·rw[show dX b k w j=⟨(lC b w j).1,k,(lC b w j).2,[]⟩ by grind[dX]];exact bFC hb hw h2 hj lk ho h p
 ·rw[show dX b k w j=⟨b,k,oA j,[]⟩ by grind[dX]];exact bFD hb hw h2 hj lk ho h p
 ·rw[show dX b k w j=⟨b,k,iB b k w j,[]⟩ by grind[dX]];exact bFE hb hw h2 hj lk ho h (tw.hc p) p
 ·rw[show dX b k w j=⟨(qP b w j).1,k,(qP b w j).2,[]⟩ by grind[dX]];exact bJH hb hw h2 hj lk ho h sb p
 ·have e:(dX b k w j).b=b/\(dX b k w j).k=(mQ k w j).1/\(dX b k w j).j=(mQ k w j).2.1:=by grind[dX]
  rw[e.1,e.2.1,e.2.2];exact bJI hb hw h2 hj lk ho h p
 ·rw[show dX b k w j=⟨b,k,GU k w j,[]⟩ by grind[dX]];exact bJJ hb hw h2 hj lk ho h p
 ·rw[show dX b k w j=⟨(jH b k j).1,(jH b k j).2.1,(jH b k j).2.2,[]⟩ by grind[dX]];exact bJK hb hw h2 hj lk ho h p
 ·exact bFF hb hw h2 hj lk ho h sb p
end
def sqN(n:Nat):List Int:=(List.range n).map λ(i:Nat)=>(i:Int)+1
theorem aMW(n:Nat):sqN (n+1)=sqN n++[(n:Int)+1]:=by simp[sqN,List.range_succ]
def bzN(t:Table)(w:Int):Nat:=if(aD t w).bO then 1 else 0
structure aYT (Q:List Batch) (w:Int) (t:Table):Prop where
 al:∀v,eO v->v≠w->(aD t v).bO=false/\mF t v=[]
 aj:AJ t.aA.aC t.aR w (aD t w)
 lc:∀x∈t.Log,x.Kind=3->x.Code=0\/x.Code=3
 sj:(aD t w).bO=true->(aD t w).aG=t.aG/\1<=t.aG
 ls:(t.Log.map mT.aG).Pairwise (·<=·)
 cl:((t.Log.filter λx=>x.Kind == 1).map mT.bK)++(mF t w).map Batch.bK=Q.map Batch.bK
 cn:(t.Log.filter λx=>x.Kind == 1).map mT.aG=sqN t.aG.toNat
 tn:(t.Log.filter λx=>x.Kind == 3).map mT.aG=sqN (t.aG.toNat-bzN t w)
theorem aYT.step{Q:List Batch}(hw:eO w)(hu:eO u)(h:Bz n t)(a:aYT Q w t):aYT Q w (aY t u):=by
 by_cases z:u=w
 ·subst z;obtain⟨_,q0,hs⟩:=h.pl;obtain⟨c,sv⟩:=hs.sv;have ser:=h.v.ser;by_cases hB:(aD t u).bO=true
  ·obtain⟨e1,ej⟩:=nD h hu hB;obtain⟨hpc,cd⟩:=h.tw hu hB;have tw:=sv.tw u hu hB;obtain⟨s1,s2⟩:=a.sj hB;have eo:∀v,eO v->v≠u->aD (aY t u) v=aD t v:=λv hv hn=>by grind[qS]
   have ew:aD (aY t u) u=(dX t.aA t.aR u (aD t u)).j:=by grind[gZ]
   have el:(aY t u).Log=t.Log++(dX t.aA t.aR u (aD t u)).l:=by rw[e1];rfl
   have es:(aY t u).aG=t.aG:=by rw[e1];rfl
   have eq:∀v,mF (aY t u) v=mF t v:=λv=>by rw[e1];rfl
   have dk:=uH t.aA t.aR u (aD t u) hpc;have lo:∀i,nY i->(dL t.aR i).dU=0\/(dL t.aR i).dU=u+1:=λi hi=>by
    have l3:0<=(dL t.aR i).dU/\(dL t.aR i).dU<=3:=by
     have:=h.v.bk;have hm:dL t.aR i∈t.aR:=by grind[dL]
     exact(this.2 _ hm).2.2
    refine Classical.byContradiction λq=>?_;have hv:eO ((dL t.aR i).dU-1):=aa
    have:=(zT h hv hi aa).1;rw[(a.al _ hv aa).1] at this;cases this
   have aj:=bL4 h.v.base hu h.v.bk.1 (h.jb hu hB) (h.lk hu) lo a.aj tw (sv.sb u hu);refine⟨λv hv hn=>by rw[eo v hv hn,eq];exact a.al v hv hn,by rw[ew,e1];exact aj,λx hx kx=>?_,λb=>?_,?_,?_,?_,?_⟩
   ·rw[el] at hx;rcases dD.1 hx with hx|hx
    ·exact a.lc x hx kx
    ·rcases dk with ⟨_,_,_,y|y⟩|⟨_,_,y⟩<;>rw[y] at hx
     ·cases hx
     ·grind
     ·rw[jJ.1 hx];have:=a.aj.cd;show(aD t u).Code=0\/(aD t u).Code=3;omega
   ·rw[es,ew] at *;rcases dk with ⟨d1,_⟩|⟨_,d1,_⟩
    ·omega
    ·rw[d1] at b;cases b
   ·rw[el,o7];refine aOJ.2 ⟨a.ls,?_,λx hx y hy=>?_⟩
    ·rcases dk with ⟨_,_,_,y|y⟩|⟨_,_,y⟩<;>rw[y]<;>simp
    ·obtain⟨x',hx',rfl⟩:=AU.1 hx;have:=h.lg.le x' hx';rcases dk with ⟨_,_,_,z|z⟩|⟨_,_,z⟩<;>rw[z] at hy
     ·cases hy
     ·simp at hy;omega
     ·simp[tlE] at hy;omega
   ·rw[el,eq,aFH];rcases dk with ⟨_,_,_,y|y⟩|⟨_,_,y⟩<;>rw[y]<;>simpa[tlE] using a.cl
   ·rw[el,es,aFH];rcases dk with ⟨_,_,_,y|y⟩|⟨_,_,y⟩<;>rw[y]<;>simpa[tlE] using a.cn
   ·have tn:=a.tn;have b1:bzN t u=1:=by simp[bzN,hB]
    rw[b1] at tn;rw[el,es,aFH];unfold bzN;rw[ew];rcases dk with ⟨_,d2,_,y|y⟩|⟨_,d1,y⟩<;>rw[y]
    ·grind
    ·grind
    ·rw[d1];have e3:t.aG.toNat-0=(t.aG.toNat-1)+1:=aa
     have e4:((t.aG.toNat-1:Nat):Int)+1=t.aG:=aa
     simp only[cG,bU,bS];grind[aMW,tlE]
  ·obtain⟨hn,e|⟨x,hx,e1,ej⟩⟩:=yP h hu hB
   ·grind
   ·have h4:=h.v.todo.1;have eo:∀v,eO v->v≠u->aD (aY t u) v=aD t v:=λv hv hn=>by grind[qS]
    have ew:aD (aY t u) u=gY x (t.aG+1):=by grind[gZ]
    have hq:¬((mF t u).length=0\/t.aG=1000000):=λy=>by
     have e2:aY t u=t:=by simp_all[aY]
     rw[e2] at e1;have:=b8 Table.aG e1;have this:t.aG=t.aG+1:=this;omega
    have e2:aY t u=qQ t u ((mF t u).getD 0 ⟨false,[]⟩):=by simp_all[aY]
    have ex:x=(mF t u).getD 0 ⟨false,[]⟩:=by
     have h1:aD (aY t u) u=gY ((mF t u).getD 0 ⟨false,[]⟩) (t.aG+1):=by grind[aD,qQ,gY]
     exact b8 aI.Batch (ew.symm.trans h1)
    have eq:∀v,eO v->mF (aY t u) v=if v=u then(mF t u).drop 1 else mF t v:=λv hv=>by rw[e1];exact a9V h4 hu hv _
    have ecs:mF t u=x::(mF t u).drop 1:=by
     match e:mF t u,hq with
     |[],hq=>grind
     |y::r,_=>grind
    have el:(aY t u).Log=t.Log++[⟨1,u,t.aG+1,0,x.bK,[]⟩]:=by rw[e1];rfl
    have es:(aY t u).aG=t.aG+1:=by rw[e1];rfl
    have et:(t.aG+1).toNat=t.aG.toNat+1:=aa
    have ei:((t.aG.toNat:Nat):Int)=t.aG:=aa
    refine⟨λv hv hn=>by rw[eo v hv hn,eq v hv,aP hn];exact a.al v hv hn,?_,λy hy ky=>?_,λ_=>by rw[ew,es];exact⟨rfl,aa⟩,?_,?_,?_,?_⟩
    ·rw[ew,e1];refine⟨λ_ s hs=>(by cases hs),λy=>?_,λ_ y=>?_,λ_ y=>⟨?_,?_⟩,λy=>?_,by simp[gY]⟩
     ·grind[gY]
     ·grind[gY]
     ·simp only[gY] at y ⊢;split at y
      ·omega
      ·rename_i k;rw[aP k];rfl
     ·simp only[gY] at y ⊢;split at y
      ·omega
      ·rename_i k;rw[aP k];grind[yK]
     grind[gY]
    ·rw[el] at hy;rcases dD.1 hy with hy|hy
     ·exact a.lc y hy ky
     grind
    ·rw[el,o7];refine aOJ.2 ⟨a.ls,ae,λy hy v hv=>?_⟩;obtain⟨y',hy',rfl⟩:=AU.1 hy;have:=h.lg.le y' hy';grind
    ·have cl:=a.cl;grind
    ·rw[el,es,et,aMW,ei,aFH,o7,a.cn];simp
    ·have tn:=a.tn;have b0:bzN t u=0:=by simp[bzN,hB]
     have b1:bzN (aY t u) u=1:=by unfold bzN;rw[ew];rfl
     grind
 ·have hB:¬(aD t u).bO=true:=by rw[(a.al u hu z).1];simp
  obtain⟨_,e|⟨x,hx,_⟩⟩:=yP h hu hB
  ·grind
  ·rw[(a.al u hu z).2] at hx;cases hx
theorem bJL{Q:List Batch}(hw:eO w)(r:Rn t e)(h:Bz n t)(a:aYT Q w t):aYT Q w e:=by
 induction r with
 |refl=>exact a
 |step hu _ ih=>exact ih (h.step hu) (a.step hw hu h)
theorem bFG(hw:eO w)(hn:∀v,eO v->v≠w->mF (cC l) v=[]):aYT (mF (cC l) w) w (cC l):=by
 have hj:∀v,eO v->aD (cC l) v=cG:=λv hv=>by rcases(by omega:v=0\/v=1\/v=2) with rfl|rfl|rfl<;>rfl
 exact⟨λv hv hx=>⟨by rw[hj v hv];rfl,hn v hv hx⟩,by grind[a1T],λx hx=>(by cases hx),λb=>(by rw[hj w hw] at b;cases b),by simp[cC],by simp[cC],rfl,by unfold bzN;rw[hj w hw];rfl⟩
theorem aYU(h:KW L):TL L=some true:=by
 have hl:=h.len;unfold TL;have key:loop (A9 L) 0=some (Out.brk ()):=iS (f:=A9 L) L.length (λk=>(k:Int)) _ (λk hk=>by
  have hr:=h.rng _ (cY hk);simp only[A9,vR];rw[eK,aW hk,aM,fH,aM,cV hr.1,gJ,aM,fH,aM,cV hr.2,gJ];by_cases k0:k=0
  ·grind[cO]
  ·have hlt:=aYY.1 h.srt (k-1) k aa hk aa;rw[eK,aM,eG,show(k:Int)-1=((k-1:Nat):Int) by omega,V2,aM,aHS,eG];rfl) (by simp[A9])
 rw[key];rfl
theorem aF3(hl:L.length<=1000)(k v:Int):JQ L k v=some (mpF L k v):=by
 have key:∀(r a out:List KV) (d:Bool),L=a++r->out.length<=a.length+d.toNat->(loop (kE L k v) (out,d,(a.length:Int))).bind (FZ k v)=some (out++if d then r.filter (λx=>!(x.Key == k)) else(r.filter λx=>!(x.Key == k)).takeWhile (λx=>!decide (k<x.Key))++⟨k,v⟩::(r.filter λx=>!(x.Key == k)).dropWhile (λx=>!decide (k<x.Key))):=λr=>by
  induction r with
  |nil=>
   intro a out d e ho;have hd:d.toNat<=1:=by cases d<;>decide
   have hL:L.length=a.length:=by rw[e];simp
   rw[bA (r:=(out,d)) (by simp_all[kE])];simp only[aM,FZ,WZ,FY];cases d
   ·rw[aO ai,MA];rfl
   ·simp
  |cons x r ih=>
   intro a out d e ho;have hd:d.toNat<=1:=ak
   have hi:a.length<L.length:=by rw[e];simp
   have ex:L[a.length]=x:=by simp[e]
   have go:∀(o:List KV) (d':Bool),kE L k v (out,d,(a.length:Int))=some (.next (o,d',((a++[x]).length:Int)))->o.length<=(a++[x]).length+d'.toNat->(loop (kE L k v) (out,d,(a.length:Int))).bind (FZ k v)=some (o++if d' then r.filter (λx=>!(x.Key == k)) else(r.filter λx=>!(x.Key == k)).takeWhile (λx=>!decide (k<x.Key))++⟨k,v⟩::(r.filter λx=>!(x.Key == k)).dropWhile (λx=>!decide (k<x.Key))):=λo d' es hlo=>by grind[bM]
   have en:bB ((a.length:Int)+1)=((a++[x]).length:Int):=by grind[cO]
   by_cases q:x.Key=k
   ·rw[go out d (by
     simp only[kE,nN];rw[eK,aW hi,aM,ex,aO ak,en]) ak,List.filter_cons_of_neg (by simp[q])]
   ·rw[List.filter_cons_of_pos (by simp[q])];cases d
    ·by_cases z:k<x.Key
     ·rw[go (out++[⟨k,v⟩]++[x]) true (by
       simp only[kE,nN,rX,rY];rw[eK,aW hi,aM,ex,aP ak,aO ai,aM,aO ak,MA,aM,MA,en]) ak]
      simp_all
     ·rw[go (out++[x]) false (by
       simp only[kE,nN,rX,rY];rw[eK,aW hi,aM,ex,aP ak,aO ai,aM,aP ak,aM,MA,en]) ak]
      simp_all
    ·rw[go (out++[x]) true (by
      simp only[kE,nN,rX,rY];rw[eK,aW hi,aM,ex,aP ak,gJ,gJ,aM,MA,en]) ak]
     simp
 have:=key L [] [] false rfl ae;grind[JQ,mpF]
theorem aVZ(hl:L.length<=1000)(k:Int):O1 L k=some (L.filter λx=>!(x.Key == k)):=by
 have key:∀(r a out:List KV),L=a++r->out.length<=a.length->loop (xW L k) (out,(a.length:Int))=some (out++r.filter λx=>!(x.Key == k)):=λr=>by
  induction r with
  |nil=>
   simp_all[bA,xW]
  |cons x r ih=>
   intro a out e ho;have hi:a.length<L.length:=by rw[e];simp
   have ex:L[a.length]=x:=by simp[e]
   have en:bB ((a.length:Int)+1)=((a++[x]).length:Int):=by grind[cO]
   by_cases q:x.Key=k
   ·rw[bM (s':=(out,((a++[x]).length:Int))) (by
     simp only[xW,xV];rw[eK,aW hi,aM,ex,aP (by simp[q]),en]),ih (a++[x]) out (by rw[e];simp) ah,List.filter_cons_of_neg (by simp[q])]
   ·rw[bM (s':=(out++[x],((a++[x]).length:Int))) (by
     simp only[xW,xV];rw[eK,aW hi,aM,ex,aO (by simp[q]),aM,MA,en]),ih (a++[x]) (out++[x]) (by rw[e];simp) ah,List.filter_cons_of_pos (by simp[q])]
    simp
 unfold O1;have:=key L [] [] rfl ae;rw[show(([]:List KV).length:Int)=0 from rfl] at this;rw[this];rfl
theorem bAS{a b:Int}(ha:0<=a/\a<=65535)(hb:0<=b/\b<=65535):JR a b=some (BQ a b):=by unfold JR BQ;rw[aSP ha.1,aSP hb.1,Int.emod_eq_of_lt ha.1 aa,Int.emod_eq_of_lt hb.1 aa,eG (x:=a+b),eG,aSP aa,aSP aa];simp
theorem bAT(h:KW L){c:iP}(hc:QK c):∃L',TM L c=some (L',(aFE (MG L) c).2)/\MG L'=(aFE (MG L) c).1/\KW L':=by
 have hl:=h.len;unfold TM IW;rw[MA,aLZ,cV hc,aM,gJ,aYU h,aM,gJ,bAR aa,aM,QT];unfold aFE;have hk:=hc.1;rcases(by omega:c.Kind=1\/c.Kind=2\/c.Kind=3\/c.Kind=4) with k|k|k|k
 ·grind
 ·obtain⟨p1,p2⟩:=aSC h hc.2.1 hc.2.2.1;simp only[k];refine⟨_,?_,p2,p1⟩;rw[aO ai,aF3 aa];rfl
 ·obtain⟨p1,p2⟩:=a1R h c.Key;simp only[k];refine⟨_,?_,p2,p1⟩;rw[aP ai,aO ai,aVZ aa];rfl
 ·have hs:=bAS (bAP h c.Key) hc.2.2.1;obtain⟨p1,p2⟩:=aSC h hc.2.1 (bJG (bAP h c.Key) hc.2.2.1);simp only[k];refine⟨_,?_,p2,p1⟩;rw[aP ai,aP ai,aO ai,hs,aM,aF3 aa];rfl
theorem a4J{cmds:List iP}(hn:cmds.length<=1000)(hc:∀c∈cmds,QK c)(h:KW L):∃L',O2 L cmds=some (L',(wO (MG L) cmds).2)/\MG L'=(wO (MG L) cmds).1/\KW L':=by
 have hl:=h.len;have key:∀(r a:List iP) (L:List KV) (R:List fY),cmds=a++r->R.length=a.length->KW L->∃L',loop (F5 cmds) (L,R,(a.length:Int))=some (L',R++(wO (MG L) r).2)/\MG L'=(wO (MG L) r).1/\KW L':=λr=>by
  induction r with
  |nil=>
   grind[bA,F5,wO]
  |cons x r ih=>
   intro a L R e hR h;have hi:a.length<cmds.length:=by rw[e];simp
   have ex:cmds[a.length]=x:=by simp[e]
   obtain⟨L1,d1,d2,d3⟩:=bAT h (hc x (by rw[e];simp));obtain⟨L',l1,l2,l3⟩:=ih (a++[x]) L1 (R++[(aFE (MG L) x).2]) (by rw[e];simp) (by simp[hR]) d3;refine⟨L',?_,by rw[l2,d2];rfl,l3⟩;rw[bM (s':=(L1,R++[(aFE (MG L) x).2],((a++[x]).length:Int))) (by
    simp only[F5];rw[eK,aW hi,aM,ex,d1,aM,MA,eG];simp),l1,d2]
   simp[wO]
 unfold O2;rw[MA,QT];obtain⟨L',l1,l2,l3⟩:=key cmds [] L [] rfl rfl h;grind[W6,W5]
theorem a1V(n:Nat):(sqN n).length=n:=by simp[sqN]
theorem a1W{n i:Nat}(h:i<n):(sqN n)[i]?=some ((i:Int)+1):=by simp[sqN,h]
theorem a1X(n:Nat):(sqN n).Pairwise (· < ·):=by unfold sqN;exact List.pairwise_map.2 (List.pairwise_lt_range.imp λa=>aa)
theorem aV0:∀{l m:List Int},l.Pairwise (· < ·)->m.Pairwise (· < ·)->(∀s,s∈l↔s∈m)->l=m
 |[],[],_,_,_=>rfl
 |[],y::m,_,_,h=>absurd ((h y).2 ae) ae
 |x::l,[],_,_,h=>absurd ((h x).1 ae) ae
 |x::l,y::m,h1,h2,h=>by
  obtain⟨a1,a2⟩:=aBR.1 h1;obtain⟨b1,b2⟩:=aBR.1 h2;have e:x=y:=by
   rcases j6.1 ((h x).1 ae) with q|q
   ·exact q
   ·rcases j6.1 ((h y).2 ae) with z|z
    ·exact z.symm
    ·have:=b1 x q;have:=a1 y z;omega
  subst e;rw[aV0 a2 b2 λs=>?_];grind
theorem bFH(cm:Int->List iP)(p r:List Int):∃R,(rpS cm (p++r)).2=(rpS cm p).2++R:=by
 obtain⟨q,rfl⟩:∃q,r=List.reverse q:=⟨r.reverse,ae⟩;induction q with
 |nil=>simp
 |cons s q ih=>
  obtain⟨R,h⟩:=ih;simp_all[rpS,rpF]
theorem bFI{l:List (Int×List fY)}(h:(l.map Prod.fst).Nodup){a b:List fY}(ha:(s,a)∈l)(hb:(s,b)∈l):a=b:=by
 induction l with
 |nil=>cases ha
 |cons x l ih=>
  grind
def aMX(e:Table)(s:Int):Bool:=wU e s && decide (cmE e s≠[])
def aDW(e:Table)(i:Nat):List Int:=(sqN i).filter (aMX e)
theorem Y3(e:Table)(i:Nat):aDW e (i+1)=if aMX e ((i:Int)+1)=true then aDW e i++[(i:Int)+1] else aDW e i:=by grind[aDW,aMW]
theorem bFJ(e:Table):∀{i d:Nat},∃r,aDW e (i+d)=aDW e i++r:=λ{i d}=>by
 induction d with
 |zero=>simp
 |succ d ih=>
  grind[Y3]
section
variable {Q:List Batch} {w:Int} {n:Int} {e:Table} {c:Int->List Int} (h:Bz n e) (I:IvC (wU e) (cmE e) e c) (a:aYT Q w e) (hid:VR e w)
include h I a hid
theorem aMY:e.aG.toNat=Q.length/\(SO e.Log).length=Q.length/\∀i,(hi:i<(SO e.Log).length)->(SO e.Log)[i].aG=(i:Int)+1:=by
 have cl:=a.cl;rw[hid.2,List.map_nil,rC] at cl;have cn:=b8 List.length a.cn;have c2:=b8 List.length cl;rw[aFL,a1V] at cn;rw[aFL,aFL] at c2;have b0:bzN e w=0:=by unfold bzN;rw[hid.1];rfl
 have tn:=a.tn;rw[b0,Nat.sub_zero] at tn;have t2:=b8 List.length tn;rw[aFL,a1V] at t2;refine⟨aa,by grind[SO],λi hi=>?_⟩;have:=b8 (λl=>l[i]?) tn;grind[SO,a1W]
theorem bL5{i:Nat}(hi:i<Q.length):cmE e ((i:Int)+1)=Q[i].bK:=by
 obtain⟨l1,l2,l3⟩:=aMY h I a hid;have hm:=V8.1 (cY (l:=SO e.Log) (n:=i) aa);have k3:(SO e.Log)[i].Kind=3:=ak
 obtain⟨_,hj⟩:=h.pl.1.tell _ hm.1 k3;rw[l3 i aa] at hj;refine(aMU (l:=e.Log) (m:=[]) (e:=e) ae (P:=λC=>C=Q[i].bK) ⟨hj.call,λx hx kx ex=>?_⟩).2;have cl:=a.cl;rw[hid.2,List.map_nil,rC] at cl;obtain⟨k,hk,e2⟩:=QP (V8 (p:=λx:mT=>x.Kind == 1).2 ⟨hx,ak⟩);have h1:=b8 (λl=>l[k]?) a.cn;have h2:=b8 (λl=>l[k]?) cl;have ck:=b8 List.length a.cn;grind[a1W]
theorem aSD:pts (wU e) e.Log=aDW e Q.length:=by
 obtain⟨l1,l2,l3⟩:=aMY h I a hid;have hT:∀s,(∃y∈e.Log,y.Kind=3/\y.aG=s)↔s∈sqN Q.length:=λs=>by
  have tn:=a.tn;have b0:bzN e w=0:=by unfold bzN;rw[hid.1];rfl
  grind
 refine aV0 ?_ ((a1X _).sublist aOG) λs=>?_
 ·have s1:(pts (wU e) e.Log).Pairwise (·<=·):=a.ls.sublist (aOG.map _);have s2:(pts (wU e) e.Log).Nodup:=by
   have:(e.Log.filter λx=>x.Kind == 2 && wU e x.aG).Sublist (e.Log.filter λx=>x.Kind == 2):=by rw[show(λx:mT=>x.Kind == 2 && wU e x.aG)=(λx:mT=>wU e x.aG && x.Kind == 2) by grind,<-List.filter_filter];exact aOG
   exact I.pu.sublist (this.map _)
  exact(s1.and s2).imp λq=>aa
 ·constructor
  ·intro hs;obtain⟨x,hx,rfl⟩:=AU.1 hs;obtain⟨m1,m2⟩:=V8.1 hx;rw[yQ,beq_iff_eq] at m2;obtain⟨y,hy,ky,es,cy⟩:=aDV.1 m2.2;exact V8.2 ⟨(hT _).1 ⟨y,hy,ky,es⟩,by unfold aMX;rw[m2.2];simpa using (I.pt x m1 m2.1).1⟩
  ·intro hs;obtain⟨m1,m2⟩:=V8.1 hs;unfold aMX at m2;rw[yQ,decide_eq_true_eq] at m2;obtain⟨y,hy,ky,es,cy⟩:=aDV.1 m2.1;have:=List.mem_map_of_mem (f:=Prod.fst) (I.tel y hy ky cy ak);grind[RT,a1S]
theorem aSE{x2:LC}{x4:Int}(hq:idx x2.eE (Int.tmod x4 3)=some ⟨Q⟩)(hQ:Q.length<=1000/\∀b∈Q,b.bK.length<=1000/\∀c∈b.bK,QK c):∀d k:Nat,k+d=Q.length->∀L,KW L->MG L=(rpS (cmE e) (aDW e k)).1->∃L',loop (sB x2 x4 (SO e.Log)) (L,(k:Int),e)=some (Out.brk (L',e))/\KW L'/\MG L'=(rpS (cmE e) (aDW e Q.length)).1
 |0,k,hk,L,hL,eL=>by obtain⟨l1,l2,l3⟩:=aMY h I a hid;simp_all[bA,sB]
 |d + 1,k,hk,L,hL,eL=>by
  obtain⟨l1,l2,l3⟩:=aMY h I a hid;have hi:k<(SO e.Log).length:=aa
  have hkq:k<Q.length:=aa
  have hs:=l3 k hi;have hcm:=bL5 h I a hid hkq;have hm:=V8.1 (cY hi);have k3:(SO e.Log)[k].Kind=3:=ak
  have en:bB ((k:Int)+1)=((k+1:Nat):Int):=by grind[cO]
  have tel:=(h.pl.1.tell _ hm.1 k3).2;have tE:=(aMU (l:=e.Log) (m:=[]) (e:=e) ae tel).2;rw[hs,hcm] at tE;rcases a.lc _ hm.1 k3 with c0|c3
  ·obtain⟨hb1,hb2⟩:=hQ.2 _ (cY hkq);obtain⟨L',d1,d2,d3⟩:=a4J hb1 hb2 hL;have fo:wU e ((k:Int)+1)=true:=aDV.2 ⟨_,hm.1,k3,hs,c0⟩;have hres:(wO (MG L) Q[k].bK).2=(SO e.Log)[k].fY/\(rpS (cmE e) (aDW e (k+1))).1=(wO (MG L) Q[k].bK).1:=by
    by_cases hc:Q[k].bK=[]
    ·have ok:aMX e ((k:Int)+1)=false:=by grind[aMX]
     rw[Y3,ok,gJ,hc];unfold bJA at tE;rw[aO c0,hc] at tE;exact⟨(List.length_eq_zero_iff.1 tE).symm,eL.symm⟩
    ·have ok:aMX e ((k:Int)+1)=true:=by grind[aMX]
     have t1:=I.tel _ hm.1 k3 c0 ak;unfold RT at t1;rw[aSD h I a hid] at t1;have nd:((rpS (cmE e) (aDW e Q.length)).2.map Prod.fst).Nodup:=by rw[a1S,<-aSD h I a hid];have:=(a1X Q.length).sublist (aOG (p:=aMX e));rw[aSD h I a hid];exact this.imp λq=>aa
     obtain⟨r,er⟩:=bFJ e (i:=k+1) (d:=d);rw[show k+1+d=Q.length by omega] at er;obtain⟨R,eR⟩:=bFH (cmE e) (aDW e (k+1)) r;have es:rpS (cmE e) (aDW e (k+1))=rpF (cmE e) (rpS (cmE e) (aDW e k)) ((k:Int)+1):=by simp_all[Y3,aVX]
     grind[rpF,bFI]
   obtain⟨L2,m1,m2,m3⟩:=aSE hq hQ d (k+1) aa L' d3 ak;refine⟨L2,?_,m2,m3⟩;have hlen:((wO (MG L) Q[k].bK).2).length<=1000:=by grind[a4G]
   have inner:loop (sA (SO e.Log) (k:Int) (L',(wO (MG L) Q[k].bK).2) e) 0=some (Out.brk e):=by
    have:=iS (f:=sA (SO e.Log) (k:Int) (L',(wO (MG L) Q[k].bK).2) e) ((wO (MG L) Q[k].bK).2).length (λi=>(i:Int)) (Out.brk e) (λi hi2=>by
     simp only[sA];rw[eK,aW hi2,aM,aW hi,aM,<-hres.1,aW hi2,aM,gJ,eG];rfl) (by simp[sA])
    exact this
   rw[bM (s':=(L',((k+1:Nat):Int),e)) (by
    simp_all[sB,rZ,zE,RY,aW,RZ]),m1]
  ·have fo:wU e ((k:Int)+1)=false:=aYR λy hy ky ey=>by rw[h.tu y hy _ hm.1 ky k3 (ey.trans hs.symm),c3];decide
   have ok:aMX e ((k:Int)+1)=false:=by grind[aMX]
   obtain⟨L2,m1,m2,m3⟩:=aSE hq hQ d (k+1) aa L hL (by simp_all[Y3]);refine⟨L2,?_,m2,m3⟩;rw[bM (s':=(L,((k+1:Nat):Int),e)) (by
    simp_all[sB,rZ,aW]),m1]
end
theorem aSF{code:List UInt8}(_:fit code):P4 code=some true:=by
 unfold P4 aJ1;rw[aM];by_cases hcl:1048576<(code.length:Int)
 ·grind
 rw[aP ak];obtain⟨x,ex,hd,_⟩:=aVO (code:=code) aa;rw[ex,aM,a3P hd.bLV,aM];rcases Classical.em (SJ x.eE) with ht|ht
 rotate_left
 ·grind
 obtain⟨v,ev,v0⟩:=bL3 (code:=code) aa (i:=0) aa;rw[cV ht,gJ,ev,aM,bZ ai];have hw:=a3L v0;generalize hwd:Int.tmod v 3=w at *;have hwl:w.toNat<x.eE.length:=by have:=ht.1;omega
 have hq:idx x.eE w=some x.eE[w.toNat]:=by grind[gP]
 have qm:x.eE[w.toNat]∈x.eE:=cY hwl;generalize hqd:x.eE[w.toNat]=q at *;have l3:(List.replicate ((3:Int).toNat) (⟨[]⟩:aN))=List.replicate 3 ⟨[]⟩:=rfl;rw[hq,aM,l3,gP hw.1 ah,aM];have mem:∀z∈(List.replicate 3 (⟨[]⟩:aN)).set w.toNat q,z=q\/z=⟨[]⟩:=λz hz=>(o8 hz).elim (λm=>.inr (List.eq_of_mem_replicate m)) .inl;have hd':ZM ((List.replicate 3 (⟨[]⟩:aN)).set w.toNat q):=⟨ae,λz hz=>by
  rcases mem z hz with rfl|rfl
  ·exact hd.2 _ qm
  ·exact⟨by simp[UK],by simp[UK],ae,λx hx=>(by cases hx)⟩⟩
 have ht':SJ ((List.replicate 3 (⟨[]⟩:aN)).set w.toNat q):=⟨ae,λz hz=>by
  rcases mem z hz with rfl|rfl
  ·exact ht.2 _ qm
  ·exact⟨ae,λx hx=>(by cases hx)⟩⟩
 have qw:mF (cC ((List.replicate 3 (⟨[]⟩:aN)).set w.toNat q)) w=q.List:=by grind[mF,cC]
 have qv:∀v,eO v->v≠w->mF (cC ((List.replicate 3 (⟨[]⟩:aN)).set w.toNat q)) v=[]:=λv hv hn=>by unfold mF cC;grind
 generalize (List.replicate 3 (⟨[]⟩:aN)).set w.toNat q=todo at *;obtain⟨f1,f2,f3⟩:=hd'.bLV.fit;rw[(aF2 f1 f2 f3).2,aO ht',aM];obtain⟨⟨e1,hid,hl⟩,hz,c,q0,sv,I,hm⟩:=bL2 hd' ht' [] ae rfl;have a0:=bFG (l:=todo) hw qv;rw[qw] at a0;have a:=bJL hw ((aR9 [] _).trans (aYQ 3000 0 _)) (bz0 hd' ht') a0;have ep:K9 (cC todo) []=cC todo:=rfl;rw[ep] at e1 hid hl hz sv I hm a;generalize SM 3000 0 (cC todo)=e at *;rw[e1,aM,a37 aa λx hx=>(hz.pl.1.ev x hx).1,aM,aM];obtain⟨n1,n2,_⟩:=aMY hz I a (hid w hw);rw[aP ak];have hQ:q.List.length<=1000/\∀b∈q.List,b.bK.length<=1000/\∀c∈b.bK,QK c:=by obtain⟨q1,q2⟩:=ht.2 _ qm;exact⟨aa,λb hb=>⟨by have:=(q2 b hb).2.1;omega,(q2 b hb).2.2.1⟩⟩
 obtain⟨L,r1,r2,r3⟩:=aSE hz I a (hid w hw) (x2:=x) (x4:=v) (by simp_all) hQ q.List.length 0 aa [] ⟨List.Pairwise.nil,λx hx=>(by cases hx)⟩ rfl;rw[show((0:Nat):Int)=0 from rfl] at r1;rw[r1,aM];simp only[R0,RX,zD];have em:=bAQ hz sv r2 (λi hi k hk=>by
  rw[r3,<-aSD hz I a (hid w hw)];exact hm i hi k hk)
 have hlen:=(aVY hz sv).1.len;rw[(bE2 hz.v sv).1,aM,em,bFA aa,aM,aO rfl,hz.v.yO.1];rfl
end Go.Gv
end
